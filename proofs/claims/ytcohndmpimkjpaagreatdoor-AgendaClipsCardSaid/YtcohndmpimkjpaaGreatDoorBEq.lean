/- Value semantics, part 19: code, and functions. No conditions. -/
import Derived.Test.YtcohndmpimkjpaaGreatDoorBDq
import Derived.ChangeArms
import Derived.OpenShut
import Derived.ChangeShapes
import Derived.ChangeSame
import Derived.Carry
import Derived.Below
import Derived.RowKit
import Derived.ProofKit
import Derived.Handed
import Derived.JoinedOf
import Derived.WideKeyArgs
import Derived.LaidLaws
import Derived.LaidHandle
import Derived.Stop.Joined
import Derived.Lay
set_option linter.unusedVariables false
set_option linter.unusedSimpArgs false
set_option linter.unusedVariables false
set_option linter.unusedSimpArgs false
namespace Go.Vs

/-- What is known of a state may be forgotten. -/
def Weak (σ σ' : St) : Prop := ∀ (w0 : World) (S0 : Stab) (M : Ctx) (a : Act) (w : World), Sim w0 S0 M σ a w → Sim w0 S0 M σ' a w
theorem Weak.refl (σ : St) : Weak σ σ := fun _ _ _ _ _ h => h
theorem Weak.trans {a b c : St} (h : Weak a b) (k : Weak b c) : Weak a c := fun w0 S0 M x w s => k w0 S0 M x w (h w0 S0 M x w s)

/-- In one of the ranges. -/
def inDead : List Nat → Nat → Bool
  | lo :: hi :: r, k => bif decide (lo ≤ k) then (bif decide (k ≤ hi) then true else inDead r k) else inDead r k
  | _, _ => false
def dropKeys (dead : List Nat) : List (Nat × SV) → List (Nat × SV)
  | [] => []
  | (k, v) :: r => bif inDead dead k then dropKeys dead r else (k, v) :: dropKeys dead r
def St.drop (σ : St) (dead : List Nat) : St := { σ with env := dropKeys dead σ.env }
theorem dropKeys_get (dead : List Nat) (env : List (Nat × SV)) (k : Nat) : getE (dropKeys dead env) k = .undef ∨ getE (dropKeys dead env) k = getE env k := by
  induction env with
  | nil => exact .inl rfl
  | cons p r ih =>
    obtain ⟨j, v⟩ := p
    have hd : ∀ (l : List (Nat × SV)), inDead dead k = true → getE (dropKeys dead l) k = .undef := by
      intro l hk
      induction l with
      | nil => rfl
      | cons q s ih =>
        obtain ⟨i, u⟩ := q
        simp only [dropKeys]
        cases hi : inDead dead i with
        | true => exact ih
        | false =>
          have : (i == k) = false := by
            cases h : i == k with
            | false => rfl
            | true => rw [beq_iff_eq] at h; subst h; rw [hk] at hi; simp at hi
          simp only [cond_false, getE, look, this]
          exact ih
    cases hk : inDead dead k with
    | true => exact .inl (hd _ hk)
    | false =>
      simp only [dropKeys]
      cases hj : inDead dead j with
      | true =>
        have : (j == k) = false := by
          cases h : j == k with
          | false => rfl
          | true => rw [beq_iff_eq] at h; subst h; rw [hk] at hj; simp at hj
        simp only [cond_true, getE, look, this, cond_false]
        exact ih
      | false =>
        simp only [cond_false, getE, look]
        cases j == k with
        | true => exact .inr rfl
        | false => exact ih
theorem weak_dropKeys (σ : St) (dead : List Nat) : Weak σ (σ.drop dead) := by
  rintro w0 S0 M a w ⟨S, μ, β, h⟩
  exact ⟨S, μ, β, h.drop rfl rfl (fun _ _ _ x => x) (fun k => dropKeys_get dead σ.env k) (fun _ _ x => x)⟩

/-- The way out of a piece of code: no panic, and a state. -/
def lift (w0 : World) (S0 : Stab) (M : Ctx) (N : Nat) (Q : Exit → St → Prop) : Exit → Act → World → Prop
  | .panic _, _, _ => False
  | .outgrown, _, _ => False
  | e, a, w => ∃ σ, Q e σ ∧ σ.n = N ∧ Sim w0 S0 M σ a w

def T (P : Program) (c : Code) (Q : Exit → St → Prop) (σ : St) : Prop := ∀ (w0 : World) (S0 : Stab) (M : Ctx) (a : Act) (w : World), Sim w0 S0 M σ a w → c.wp P (lift w0 S0 M σ.n Q) a w

def bndOps (n : Nat) : List VOper → Bool
  | [] => true
  | o :: r => (match o.dst with
    | some d => decide (d < n)
    | none => true) && bndOps n r
def VCode.bnd (n : Nat) : VCode → Bool
  | .region ops mode _ => bndOps n ops && (match mode with
    | .drawnM _ _ => flowB (stripOps ops)
    | _ => true)
  | .seq a b => a.bnd n && b.bnd n
  | .cond _ a b => a.bnd n && b.bnd n
  | .block _ a => a.bnd n
  | .loop a => a.bnd n
  | .scope a => a.bnd n
  | .cut a => a.bnd n
  | _ => true
theorem bndOps_spec {n : Nat} : ∀ {l : List VOper}, bndOps n l = true → ∀ v ∈ l, ∀ d, v.dst = some d → d < n
  | [], _, v, hv => by simp at hv
  | o :: r, h, v, hv => by
    simp only [bndOps, Bool.and_eq_true] at h
    intro d hd
    rcases List.mem_cons.1 hv with rfl | hv
    · rw [hd] at h; simpa using h.1
    · exact bndOps_spec h.2 v hv d hd

/-- The same of the small code. -/
def TV (P : Program) (v : VCode) (Q : Exit → St → Prop) (σ : St) : Prop := ∀ c, comp P c = some v.strip → v.bnd σ.n = true → T P c Q σ

def runT (P : Program) (K : St → Prop) : List VOper → St → Prop
  | [], σ => K σ
  | o :: r, σ => match o.guard with
    | none => opW P σ o.dst (fun u => runT P K r (σ.apply o.dst u)) o.op
    | some (g, b) => match gval (getE σ.env g) with
      | some c => (c = some b → opW P σ o.dst (fun u => runT P K r (σ.apply o.dst u)) o.op) ∧ (¬ c = some b → runT P K r (σ.apply o.dst skipU))
      | none => False
theorem runT_steps {P : Program} {K : St → Prop} : ∀ {l : List VOper} {σ : St}, runT P K l σ → ∃ es' σf, Steps1 P l σ es' σf ∧ K σf
  | [], σ, h => ⟨[], σ, ⟨rfl, rfl⟩, h⟩
  | o :: r, σ, h => by
    simp only [runT] at h
    have act : opW P σ o.dst (fun u => runT P K r (σ.apply o.dst u)) o.op → ∃ e es' σf, Act1 P σ o e ∧ Steps1 P r (σ.apply e.dst e.u) es' σf ∧ K σf := by
      intro h1
      obtain ⟨u, hu, hr⟩ := opW_rel h1
      obtain ⟨es', σf, h2, h3⟩ := runT_steps hr
      exact ⟨⟨idsOf σ o.op u, o.dst, u⟩, es', σf, ⟨hu, rfl, rfl⟩, h2, h3⟩
    split at h
    · next hg =>
      obtain ⟨e, es', σf, h1, h2, h3⟩ := act h
      exact ⟨e :: es', σf, ⟨e, es', rfl, by unfold Step1; rw [hg]; exact h1, h2⟩, h3⟩
    · next g b hg =>
      split at h
      · next c hc =>
        by_cases hcb : c = some b
        · obtain ⟨e, es', σf, h1, h2, h3⟩ := act (h.1 hcb)
          exact ⟨e :: es', σf, ⟨e, es', rfl, by unfold Step1; rw [hg]; exact ⟨c, hc, .inl ⟨hcb, h1⟩⟩, h2⟩, h3⟩
        · obtain ⟨es', σf, h2, h3⟩ := runT_steps (h.2 hcb)
          exact ⟨⟨[], o.dst, skipU⟩ :: es', σf, ⟨_, es', rfl, by unfold Step1; rw [hg]; exact ⟨c, hc, .inr ⟨hcb, rfl⟩⟩, h2⟩, h3⟩
      · exact h.elim

/-- What is to be shown at a call that turns objects. -/
def MCall (P : Program) (σ : St) (dst : Option Nat) (f : SV) (args : List Opd) (K : St → Prop) : Prop :=
  ∃ k vals mc ρ fz, mVals σ f args = some (k, vals) ∧ FnM σ.gl P k mc ∧ mOk σ ρ mc = true ∧ mObjs σ.objs ρ mc.objs ∧ mArgs σ.objs ρ vals mc.args fz ∧ mFz ρ fz mc.objs = true ∧ K (σ.mapply dst ρ mc fz)
/-- One operation, forward, calls that turn objects too. -/
def opM (P : Program) (σ : St) (dst : Option Nat) (K : St → Prop) : VOp → Prop
  | .callM f args => MCall P σ dst (.val (.fn f [])) args K
  | .callMV f args => MCall P σ dst (val σ f) args K
  | op => opW P σ dst (fun u => K (σ.apply dst u)) op
def runM (P : Program) (K : St → Prop) : List VOper → St → Prop
  | [], σ => K σ
  | o :: r, σ => match o.guard with
    | none => opM P σ o.dst (runM P K r) o.op
    | some (g, b) => match gval (getE σ.env g) with
      | some c => (c = some b → opM P σ o.dst (runM P K r) o.op) ∧ (¬ c = some b → runM P K r (σ.apply o.dst skipU))
      | none => False

theorem mapply_n {σ : St} {dst : Option Nat} {ρ : List (Nat × Nat)} {c : MC} {fz : List Nat} : (σ.mapply dst ρ c fz).n = σ.n := rfl

/-- One operation, calls that turn objects too. -/
theorem opM_sound {P : Program} {w0 w : World} {S0 : Stab} {M : Ctx} {σ : St} {a : Act} {o : Oper} (h : Sim w0 S0 M σ a w) (hd : ∀ d, o.dst = some d → d < σ.n) {vo : VOp} (hc : compOp P o.op = some vo.strip) {K : St → Prop} (hu : opM P σ o.dst K vo) {next : Act → World → Prop} {Q : Exit → Act → World → Prop}
    (hn : ∀ σ' a' w', K σ' → σ'.n = σ.n → Sim w0 S0 M σ' a' w' → next a' w') : o.wp P a w next Q := by
  have turns : ∀ {f : SV} {args : List Opd} {c : Call} {f' : Operand}, o.op = .call c → c.callee = .value f' → compOpds c.args.toList = some args → (∀ S μ β, SimG w0 S0 M σ a w S μ β → SVRel w S μ σ.objs f (a.eval f')) → MCall P σ o.dst f args K → o.wp P a w next Q := by
    intro f args c f' ho hcl hargs hf ⟨k, vals, mc, ρ, fz, h1, h2, h3, h4, h5, h6, h7⟩
    obtain ⟨S, μ, β, hg⟩ := h
    exact mcall_wp hg hd ho hcl (hf S μ β hg) hargs h1 h2 h3 h4 h5 h6 (fun v w' hs => hn _ _ _ h7 mapply_n hs)
  have plain : opW P σ o.dst (fun u => K (σ.apply o.dst u)) vo → compOp P o.op = some vo → o.wp P a w next Q := by
    intro h1 h2
    obtain ⟨u, hr, hk⟩ := opW_rel h1
    exact op_sound h hd h2 hr (fun v w' hs => hn _ _ _ hk apply_n hs)
  cases vo
  case callM f args =>
    obtain ⟨c, ho, hcc⟩ := compOp_call hc (.inl ⟨_, _, rfl⟩)
    obtain ⟨hcl, hargs⟩ := (compCall_value hcc).1 _ _ rfl
    exact turns (f := .val (.fn f [])) ho hcl hargs (fun S μ β hg => ⟨#[], rfl, rfl⟩) hu
  case callMV f args =>
    obtain ⟨c, ho, hcc⟩ := compOp_call hc (.inr ⟨_, _, rfl⟩)
    obtain ⟨f', hcl, hf, hargs⟩ := (compCall_value hcc).2 _ _ rfl
    exact turns ho hcl hargs (fun S μ β hg => opd_sound hg hf) hu
  all_goals exact plain hu hc

theorem stripOps_get : ∀ {l : List VOper} {i : Nat}, (stripOps l)[i]? = (l[i]?).map VOper.strip
  | [], i => by simp [stripOps]
  | o :: r, 0 => rfl
  | o :: r, i + 1 => by simpa [stripOps] using stripOps_get (l := r) (i := i)
theorem stripOps_length : ∀ {l : List VOper}, (stripOps l).length = l.length
  | [] => rfl
  | o :: r => by simp [stripOps, stripOps_length (l := r)]

/-- One operation of a region, in the order of the text. -/
theorem stepM_sound {P : Program} {w0 : World} {S0 : Stab} {M : Ctx} {ops : Array Oper} {i : Nat} {o : Oper} {v : VOper} (ho : ops[i]? = some o) (hv : compOper P ops o = some v.strip) {σ : St} {a : Act} {w : World} (h : Sim w0 S0 M σ a w) (hd : ∀ d, v.dst = some d → d < σ.n) {K : St → Prop} {r : List VOper} (hs : runM P K (v :: r) σ)
    {Q : Exit → Act → World → Prop} {N : Act → World → Prop} (hK : ∀ σ' a' w', runM P K r σ' → σ'.n = σ.n → Sim w0 S0 M σ' a' w' → N a' w') : wpOp P ops Q i N a w := by
  obtain ⟨hdst, hop, hg⟩ := compOper_parts hv
  have hdst : v.dst = o.dst := hdst
  have hop : compOp P o.op = some v.op.strip := hop
  have hg : compGuard ops o.guard = some v.guard := hg
  have run : opM P σ v.dst (runM P K r) v.op → o.wp P a w N Q := by
    intro h1
    exact opM_sound h (fun d hd' => hd d (by rw [hdst]; exact hd')) hop (by rw [← hdst]; exact h1) hK
  unfold wpOp
  rw [ho]
  dsimp only
  simp only [runM] at hs
  cases hgo : o.guard with
  | none =>
    have : v.guard = none := by rw [hgo] at hg; simpa [compGuard] using hg.symm
    rw [this] at hs
    have hw : Region.wanted o (yielded ops a.tmps) = true := by simp [Region.wanted, hgo]
    rw [if_pos hw]
    exact .inl (run hs)
  | some p =>
    obtain ⟨j, b⟩ := p
    rw [hgo] at hg
    simp only [compGuard] at hg
    split at hg
    · next d hd' =>
      have hvg : v.guard = some (d, b) := by simpa using hg.symm
      rw [hvg] at hs
      dsimp only at hs
      split at hs
      · next c hc =>
        have hy : yielded ops a.tmps j = c := yielded_gval hd' h hc
        have hw : Region.wanted o (yielded ops a.tmps) = (c == some b) := by simp [Region.wanted, hgo, hy]
        rw [hw]
        by_cases hcb : c = some b
        · rw [if_pos (by simpa using hcb)]
          exact .inl (run (hs.1 hcb))
        · rw [if_neg (by simpa using hcb)]
          refine hK _ _ _ (hs.2 hcb) apply_n ?_
          obtain ⟨S, μ, β, h'⟩ := h
          rw [← hdst]
          exact ⟨S, μ, β, h'.putD (sv := .val (.tuple [])) hd ⟨#[], rfl, rfl⟩⟩
      · exact hs.elim
    · simp at hg

/-- A region in the order of the text. -/
theorem region_textM {P : Program} {w0 : World} {S0 : Stab} {M : Ctx} {ops : Array Oper} {vs : List VOper} (hc : compOpers P ops ops.toList = some (stripOps vs)) {σ : St} {a : Act} {w : World} (h : Sim w0 S0 M σ a w) (hd : ∀ v ∈ vs, ∀ d, v.dst = some d → d < σ.n) {K : St → Prop} (hs : runM P K vs σ)
    {Q : Exit → Act → World → Prop} (hQ : ∀ σ' a' w', K σ' → σ'.n = σ.n → Sim w0 S0 M σ' a' w' → Q .normal a' w') : wpOps P ops Q (List.range ops.size) a w := by
  obtain ⟨hlen, hget⟩ := compOpers_get hc
  rw [stripOps_length] at hlen
  have key : ∀ (l : List VOper) (k : Nat) (σ' : St) (a : Act) (w : World), (∀ i, l[i]? = vs[k + i]?) → σ'.n = σ.n → Sim w0 S0 M σ' a w → (∀ v ∈ l, ∀ d, v.dst = some d → d < σ.n) → runM P K l σ' → wpOps P ops Q (List.range' k l.length) a w := by
    intro l
    induction l with
    | nil =>
      intro k σ' a w _ hn h _ hs
      exact hQ σ' a w hs hn h
    | cons v r ih =>
      intro k σ' a w hl hn h hd hs
      have hv : vs[k]? = some v := by simpa using (hl 0).symm
      have hk : k < ops.toList.length := by
        rw [← hlen]
        rcases Nat.lt_or_ge k vs.length with hh | hh
        · exact hh
        · simp [List.getElem?_eq_none hh] at hv
      obtain ⟨v', hv', hcv⟩ := hget k ops.toList[k] (List.getElem?_eq_getElem hk)
      rw [stripOps_get, hv] at hv'
      obtain rfl : v' = v.strip := (Option.some.inj hv').symm
      simp only [List.length_cons, List.range'_succ]
      rw [wpOps_cons]
      refine stepM_sound (o := ops.toList[k]) (by rw [← Array.getElem?_toList]; exact List.getElem?_eq_getElem hk) hcv h (fun d hdd => by rw [hn]; exact hd v (by simp) d hdd) hs (fun σ'' a' w' h1 hn' h' => ?_)
      exact ih (k + 1) σ'' a' w' (fun i => by have := hl (i + 1); simpa [Nat.add_assoc, Nat.add_comm 1 i] using this) (hn'.trans hn) h' (fun x hx d hxd => hd x (List.mem_cons_of_mem _ hx) d hxd) h1
  have := key vs 0 σ a w (by simp) rfl h hd hs
  rw [List.range_eq_range', show ops.size = vs.length by rw [hlen]; simp]
  exact this

/-- Steps that are known are those of the code as it is. -/
theorem steps1_strip {P : Program} : ∀ {l : List VOper} {σ σf : St} {es : List Eff}, Steps1 P l σ es σf → Steps1 P (stripOps l) σ es σf
  | [], _, _, _, h => h
  | o :: r, σ, σf, es, ⟨e, es', h1, h2, h3⟩ => by
    refine ⟨e, es', h1, ?_, steps1_strip h3⟩
    have act : Act1 P σ o e → Act1 P σ o.strip e := by
      rintro ⟨k1, k2, k3⟩
      have : o.op.strip = o.op := by
        cases hop : o.op <;> first | rfl | (exfalso; rw [hop] at k1; simp [OpRel, ev] at k1)
      refine ⟨?_, ?_, k3⟩
      · show OpRel P σ o.dst e.u o.op.strip
        rw [this]; exact k1
      · show e.ids = idsOf σ o.op.strip e.u
        rw [this]; exact k2
    unfold Step1 at h2 ⊢
    have hg : o.strip.guard = o.guard := rfl
    rw [hg]
    split at h2
    · exact act h2
    · obtain ⟨c, q1, q2⟩ := h2
      exact ⟨c, q1, q2.imp (fun q => ⟨q.1, act q.2⟩) (fun q => q)⟩

/-- A region in whatever order, whose last operation, a call that turns objects, comes behind all others. -/
def cutP (n : Nat) (ps : List (Nat × Nat)) : List (Nat × Nat) := ps.filter fun p => decide (p.1 < n) && decide (p.2 < n)
def runDM (P : Program) (K : St → Prop) (σ0 : St) (ps ms : List (Nat × Nat)) : List VOper → St → List Eff → Prop
  | [], _, _ => False
  | [o], σ, es => chkD σ0 (cutP es.length ps) (cutP es.length ms) es = true ∧ runM P K [o] σ
  | o :: o2 :: r, σ, es => match o.guard with
    | none => opW P σ o.dst (fun u => runDM P K σ0 ps ms (o2 :: r) (σ.apply o.dst u) (es ++ [⟨idsOf σ o.op u, o.dst, u⟩])) o.op
    | some _ => False
theorem runDM_steps {P : Program} {K : St → Prop} {σ0 : St} {ps ms : List (Nat × Nat)} : ∀ {l : List VOper} {σ : St} {es : List Eff}, runDM P K σ0 ps ms l σ es → ∃ vs last es' σf, l = vs ++ [last] ∧ Steps1 P vs σ es' σf ∧ chkD σ0 (cutP (es ++ es').length ps) (cutP (es ++ es').length ms) (es ++ es') = true ∧ runM P K [last] σf
  | [], _, _, h => h.elim
  | [o], σ, es, h => ⟨[], o, [], σ, rfl, ⟨rfl, rfl⟩, by rw [List.append_nil]; exact h.1, h.2⟩
  | o :: o2 :: r, σ, es, h => by
    simp only [runDM] at h
    split at h
    · next hg =>
      obtain ⟨u, hu, hr⟩ := opW_rel h
      obtain ⟨vs, last, es', σf, h1, h2, h3, h4⟩ := runDM_steps hr
      exact ⟨o :: vs, last, ⟨idsOf σ o.op u, o.dst, u⟩ :: es', σf, by rw [h1]; rfl, ⟨_, es', rfl, by unfold Step1; rw [hg]; exact ⟨hu, rfl, rfl⟩, h2⟩, by simpa using h3, h4⟩
    · exact h.elim

/-- WHAT A PIECE OF CODE DOES: the state that it leaves, by whichever way out. -/
def pw (P : Program) : VCode → (Exit → St → Prop) → St → Prop
  | .skip, Q, σ => Q .normal σ
  | .region ops mode dead, Q, σ => match mode with
    | .text => runM P (fun σ' => Q .normal (σ'.drop dead)) ops σ
    | .calm => runT P (fun σ' => Q .normal (σ'.drop dead)) ops σ
    | .drawn pairs makes => runD P (fun es σ' => chkD σ pairs makes es = true ∧ Q .normal (σ'.drop dead)) ops σ []
    | .drawnM pairs makes => runDM P (fun σ' => Q .normal (σ'.drop dead)) σ pairs makes ops σ []
  | .seq a b, Q, σ => pw P a (fun e σ' => match e with
    | .normal => pw P b Q σ'
    | e => Q e σ') σ
  | .cond c a b, Q, σ => match val σ c with
    | .val (.bool t) => (t = true → pw P a Q σ) ∧ (t = false → pw P b Q σ)
    | .anyB => pw P a Q σ ∧ pw P b Q σ
    | _ => False
  | .block id a, Q, σ => pw P a (fun e σ' => match e with
    | .exit i => if i = id then Q .normal σ' else Q (.exit i) σ'
    | e => Q e σ') σ
  | .loop a, Q, σ => TV P (.loop a) Q σ
  | .exit id, Q, σ => Q (.exit id) σ
  | .scope a, Q, σ => TV P (.scope a) Q σ
  | .label _, Q, σ => Q .normal σ
  | .goto l, Q, σ => Q (.goto l) σ
  | .ret, Q, σ => Q .ret σ
  | .refuse, _, _ => False
  | .cut a, Q, σ => TV P a Q σ

theorem comp_strip_region {P : Program} {c : Code} {ops : List VOper} {mode : RMode} (h : comp P c = some (.region ops mode [])) :
    ∃ id os draw, c = .region id os draw ∧ compOpers P os os.toList = some ops ∧ ((draw = false ∧ mode = .text) ∨ (draw = true ∧ ∃ ps ms, pairsOf os ops.toArray = some (ps, ms) ∧ ((mode = .calm ∧ ps = [] ∧ ops.all (fun v => !v.op.makes) = true) ∨ mode = .drawn ps ms))) := by
  cases c with
  | region id os draw =>
    simp only [comp] at h
    split at h
    · next vs hv =>
      split at h
      · next hd =>
        split at h
        · next ps ms hp =>
          split at h
          · next hcalm =>
            simp only [Option.some.injEq, VCode.region.injEq] at h
            obtain ⟨rfl, rfl, _⟩ := h
            simp only [Bool.and_eq_true, List.isEmpty_iff] at hcalm
            exact ⟨id, os, draw, rfl, hv, .inr ⟨by simpa using hd, ps, ms, hp, .inl ⟨rfl, hcalm.1, hcalm.2⟩⟩⟩
          · simp only [Option.some.injEq, VCode.region.injEq] at h
            obtain ⟨rfl, rfl, _⟩ := h
            exact ⟨id, os, draw, rfl, hv, .inr ⟨by simpa using hd, ps, ms, hp, .inr rfl⟩⟩
        · simp at h
      · next hd =>
        simp only [Option.some.injEq, VCode.region.injEq] at h
        obtain ⟨rfl, rfl, _⟩ := h
        exact ⟨id, os, draw, rfl, hv, .inl ⟨by simpa using hd, rfl⟩⟩
    · simp at h
  | skip => simp [comp] at h
  | seq a b => simp only [comp] at h; split at h <;> simp at h
  | cond c a b => simp only [comp] at h; split at h <;> simp at h
  | block id a => simp only [comp, Option.map_eq_some_iff] at h; obtain ⟨_, _, h⟩ := h; simp at h
  | loop a => simp only [comp, Option.map_eq_some_iff] at h; obtain ⟨_, _, h⟩ := h; simp at h
  | rangeFunc f p a b => simp [comp] at h
  | exit id => simp [comp] at h
  | scope a => simp only [comp, Option.map_eq_some_iff] at h; obtain ⟨_, _, h⟩ := h; simp at h
  | label l => simp [comp] at h
  | goto l => simp [comp] at h
  | ret => simp [comp] at h
  | refuse w => simp [comp] at h

/-- A property of code, by the small code that it becomes. -/
theorem comp_cases {P : Program} {c : Code} {v : VCode} (h : comp P c = some v) : match v with
    | .skip => c = .skip
    | .region ops mode dead => dead = []
    | .seq x y => ∃ a b, c = .seq a b ∧ comp P a = some x ∧ comp P b = some y
    | .cond u x y => ∃ o a b, c = .cond o a b ∧ compOpd o = some u ∧ comp P a = some x ∧ comp P b = some y
    | .block id x => ∃ a, c = .block id a ∧ comp P a = some x
    | .loop x => ∃ a, c = .loop a ∧ comp P a = some x
    | .exit id => c = .exit id
    | .scope x => ∃ a, c = .scope a ∧ comp P a = some x
    | .label l => c = .label l
    | .goto l => c = .goto l
    | .ret => c = .ret
    | .refuse => ∃ why, c = .refuse why
    | .cut _ => False := by
  cases c with
  | region id os draw =>
    simp only [comp] at h
    split at h
    · split at h
      · split at h
        · split at h <;> (obtain rfl := Option.some.inj h; rfl)
        · simp at h
      · obtain rfl := Option.some.inj h; rfl
    · simp at h
  | skip => obtain rfl := Option.some.inj h; rfl
  | seq a b =>
    simp only [comp] at h
    split at h
    · next x y h1 h2 => obtain rfl := Option.some.inj h; exact ⟨a, b, rfl, h1, h2⟩
    · simp at h
  | cond o a b =>
    simp only [comp] at h
    split at h
    · next u x y h0 h1 h2 => obtain rfl := Option.some.inj h; exact ⟨o, a, b, rfl, h0, h1, h2⟩
    · simp at h
  | block id a => simp only [comp, Option.map_eq_some_iff] at h; obtain ⟨x, hx, rfl⟩ := h; exact ⟨a, rfl, hx⟩
  | loop a => simp only [comp, Option.map_eq_some_iff] at h; obtain ⟨x, hx, rfl⟩ := h; exact ⟨a, rfl, hx⟩
  | rangeFunc f p a b => simp [comp] at h
  | exit id => obtain rfl := Option.some.inj h; rfl
  | scope a => simp only [comp, Option.map_eq_some_iff] at h; obtain ⟨x, hx, rfl⟩ := h; exact ⟨a, rfl, hx⟩
  | label l => obtain rfl := Option.some.inj h; rfl
  | goto l => obtain rfl := Option.some.inj h; rfl
  | ret => obtain rfl := Option.some.inj h; rfl
  | refuse w => obtain rfl := Option.some.inj h; exact ⟨w, rfl⟩


theorem steps1_n {P : Program} : ∀ {l : List VOper} {σ σf : St} {es : List Eff}, Steps1 P l σ es σf → σf.n = σ.n
  | [], _, _, _, ⟨_, h⟩ => by rw [h]
  | _ :: _, σ, σf, _, ⟨e, _, _, _, h⟩ => by rw [steps1_n h, apply_n]

/-- What a region does, operation by operation. -/
def RegOps (P : Program) (c : Code) (Q : Exit → St → Prop) (σ : St) : Prop := ∃ id os draw, c = .region id os draw ∧ ∀ (w0 : World) (S0 : Stab) (M : Ctx) (a : Act) (w : World), Sim w0 S0 M σ a w →
  (draw = false → wpOps P os (lift w0 S0 M σ.n Q) (List.range os.size) a w) ∧ (draw = true → wpAny P .any os (lift w0 S0 M σ.n Q) os.size (Array.replicate os.size false) a { w with drawn := w.drawn + 1 })
theorem RegOps.t {P : Program} (hm : P.follows .mixedOrders = true) {c : Code} {Q : Exit → St → Prop} {σ : St} (h : RegOps P c Q σ) : T P c Q σ := by
  obtain ⟨id, os, draw, rfl, h⟩ := h
  intro w0 S0 M a w hs
  have := h w0 S0 M a w hs
  cases draw with
  | false => exact wp_region (this.1 rfl)
  | true => exact wp_region_any hm (this.2 rfl)
theorem region_sound0 {P : Program} (hm : P.follows .mixedOrders = true) {c : Code} {ops : List VOper} {mode : RMode} {dead : List Nat} (hc : comp P c = some (.region (stripOps ops) mode [])) {Q : Exit → St → Prop} {σ : St} (hb : bndOps σ.n ops = true) (h : pw P (.region ops mode dead) Q σ) : RegOps P c Q σ := by
  obtain ⟨id, os, draw, rfl, hv, hmode⟩ := comp_strip_region hc
  refine ⟨id, os, draw, rfl, ?_⟩
  intro w0 S0 M a w hs
  have hd := bndOps_spec hb
  have hd' : ∀ v ∈ stripOps ops, ∀ d, v.dst = some d → d < σ.n := by
    intro v hv d hdd
    obtain ⟨i, hi⟩ := List.getElem?_of_mem hv
    rw [stripOps_get] at hi
    cases ho : ops[i]? with
    | none => rw [ho] at hi; simp at hi
    | some x =>
      rw [ho] at hi
      simp only [Option.map_some, Option.some.injEq] at hi
      subst hi
      exact hd x (List.mem_of_getElem? ho) d hdd
  have post : ∀ {es : List Eff} {σf : St}, Steps1 P (stripOps ops) σ es σf → Q .normal (σf.drop dead) → ∀ a' w', Sim w0 S0 M σf a' w' → lift w0 S0 M σ.n Q .normal a' w' := fun h1 hq a' w' hs' => ⟨_, hq, (by have := steps1_n h1; exact this), weak_dropKeys _ _ _ _ _ _ _ hs'⟩
  -- a draw changes no memory
  have hdrew : Sim w0 S0 M σ a { w with drawn := w.drawn + 1 } := by
    obtain ⟨S, μ, β, hg⟩ := hs
    exact ⟨S, μ, β, hg.world (w' := { w with drawn := w.drawn + 1 }) ⟨fun _ _ _ => rfl, fun _ _ h => h⟩ (fun _ _ x => x) (fun _ _ _ _ _ => rfl) (fun _ _ _ _ _ _ x => x) hg.stab (fun _ _ x => .inl x) ⟨hg.kept.os, hg.kept.tape, hg.kept.output, hg.kept.size, hg.kept.block, hg.kept.shape⟩⟩
  rcases hmode with ⟨rfl, rfl⟩ | ⟨rfl, ps, ms, hp, hmode⟩
  · refine ⟨fun _ => region_textM (K := fun σ' => Q .normal (σ'.drop dead)) hv hs hd (by simpa only [pw] using h) (fun σ' a' w' hq hn hs' => ⟨_, hq, hn, weak_dropKeys _ _ _ _ _ _ _ hs'⟩), fun h => by cases h⟩
  · rcases hmode with ⟨rfl, rfl, hnm⟩ | rfl
    · obtain ⟨es, σf, h1, h2⟩ := runT_steps (by simpa only [pw] using h)
      replace h1 := steps1_strip h1
      refine ⟨fun h => (by cases h), fun _ => region_any hv hp hdrew hd' h1 ?_ (post h1 h2)⟩
      obtain ⟨_, hidx, hel⟩ := items_run 0 h1
      have hall := steps_all 0 h1
      have hmsnil : ms = [] := by
        unfold pairsOf at hp
        simp only at hp
        split at hp
        · simp only [Option.some.injEq, Prod.mk.injEq] at hp
          rw [← hp.2, List.flatMap_eq_nil_iff]
          intro k hk
          cases hvk : (stripOps ops).toArray[k]? with
          | none => rfl
          | some vk =>
            have hmem : vk ∈ stripOps ops := List.mem_of_getElem? (by simpa using hvk)
            have := List.all_eq_true.1 hnm vk hmem
            simp only [Bool.not_eq_true'] at this
            simp [this]
        · simp at hp
      subst hmsnil
      unfold chkD
      simp only [List.all_nil, Bool.true_and, List.all_eq_true]
      intro e he
      obtain ⟨i, hi, hei⟩ := List.mem_iff_getElem.1 he
      -- its operation makes nothing
      have : e.newId = none := by
        cases hn : e.newId with
        | none => rfl
        | some d =>
          exfalso
          obtain ⟨⟨o, ho⟩, _⟩ := newId_creates.1 hn
          have hmemI : ∃ p ∈ items 0 (stripOps ops) es, p.e = e := by
            have : ∀ (k : Nat) (l : List VOper) (es : List Eff), es.length = l.length → e ∈ es → ∃ p ∈ items k l es, p.e = e := by
              intro k l
              induction l generalizing k with
              | nil => intro es hl he; simp at hl; subst hl; simp at he
              | cons o r ih =>
                intro es hl he
                cases es with
                | nil => simp at he
                | cons x es =>
                  rcases List.mem_cons.1 he with rfl | he
                  · exact ⟨⟨k, o, e⟩, by simp [items], rfl⟩
                  · obtain ⟨p, hp, hpe⟩ := ih (k + 1) es (by simpa using hl) he
                    exact ⟨p, by simp [items, hp], hpe⟩
            exact this 0 (stripOps ops) es hel he
          obtain ⟨p, hp', rfl⟩ := hmemI
          obtain ⟨σ1, s1⟩ := hall p hp'
          have hmk := (step_kind s1).2.1 (by rw [ho]; simp)
          obtain ⟨_, h3, _⟩ := items_get hel hp'
          have := List.all_eq_true.1 hnm p.o (List.mem_of_getElem? h3)
          rw [hmk] at this
          simp at this
      rw [this]
    · obtain ⟨es, σf, h1, h2⟩ := runD_steps (by simpa only [pw] using h)
      simp only [List.nil_append] at h2
      replace h1 := steps1_strip h1
      exact ⟨fun h => (by cases h), fun _ => region_any hv hp hdrew hd' h1 h2.1 (post h1 h2.2)⟩

theorem stripOps_append {a b : List VOper} : stripOps (a ++ b) = stripOps a ++ stripOps b := by
  induction a with
  | nil => rfl
  | cons o r ih => simp [stripOps, ih]
theorem bndOps_append {n : Nat} {a b : List VOper} (h : bndOps n (a ++ b) = true) : bndOps n a = true ∧ bndOps n b = true := by
  induction a with
  | nil => exact ⟨rfl, h⟩
  | cons o r ih =>
    simp only [List.cons_append, bndOps, Bool.and_eq_true] at h ⊢
    exact ⟨⟨h.1, (ih h.2).1⟩, (ih h.2).2⟩
theorem region_sound {P : Program} (hm : P.follows .mixedOrders = true) {c : Code} {ops : List VOper} {mode : RMode} {dead : List Nat} (hc : comp P c = some (.region (stripOps ops) mode.strip [])) {Q : Exit → St → Prop} {σ : St} (hb : (VCode.region ops mode dead).bnd σ.n = true) (h : pw P (.region ops mode dead) Q σ) : RegOps P c Q σ := by
  simp only [VCode.bnd, Bool.and_eq_true] at hb
  obtain ⟨hb, hfl⟩ := hb
  cases mode with
  | text => exact region_sound0 hm hc hb h
  | calm => exact region_sound0 hm hc hb h
  | drawn ps ms => exact region_sound0 hm hc hb h
  | drawnM ps ms =>
    obtain ⟨id, os, draw, rfl, hv, hmode⟩ := comp_strip_region hc
    rcases hmode with ⟨_, h0⟩ | ⟨rfl, ps', ms', hp, ⟨h0, _⟩ | h0⟩
    · simp [RMode.strip] at h0
    · simp [RMode.strip] at h0
    · simp only [RMode.strip, RMode.drawn.injEq] at h0
      obtain ⟨rfl, rfl⟩ := h0
      refine ⟨id, os, true, rfl, ?_⟩
      intro w0 S0 M a w hs
      have hdrew : Sim w0 S0 M σ a { w with drawn := w.drawn + 1 } := by
        obtain ⟨S, μ, β, hg⟩ := hs
        exact ⟨S, μ, β, hg.world (w' := { w with drawn := w.drawn + 1 }) ⟨fun _ _ _ => rfl, fun _ _ h => h⟩ (fun _ _ x => x) (fun _ _ _ _ _ => rfl) (fun _ _ _ _ _ _ x => x) hg.stab (fun _ _ x => .inl x) ⟨hg.kept.os, hg.kept.tape, hg.kept.output, hg.kept.size, hg.kept.block, hg.kept.shape⟩⟩
      obtain ⟨vs, last, es, σf, rfl, h1, h2, h3⟩ := runDM_steps (by simpa only [pw] using h)
      obtain ⟨hb1, hb2⟩ := bndOps_append hb
      have hel : es.length = vs.length := (items_run 0 h1).2.2
      have hl : (stripOps vs).length = vs.length := stripOps_length
      replace h1 := steps1_strip h1
      simp only [List.nil_append, hel, ← hl] at h2
      rw [stripOps_append] at hv hp hfl
      have hd' : ∀ v ∈ stripOps vs, ∀ d, v.dst = some d → d < σ.n := by
        intro v hv d hdd
        obtain ⟨i, hi⟩ := List.getElem?_of_mem hv
        rw [stripOps_get] at hi
        cases ho : vs[i]? with
        | none => rw [ho] at hi; simp at hi
        | some x =>
          rw [ho] at hi
          simp only [Option.map_some, Option.some.injEq] at hi
          subst hi
          exact bndOps_spec hb1 x (List.mem_of_getElem? ho) d hdd
      refine ⟨fun h => (by cases h), fun _ => region_last (last := last.strip) hv hp hfl hdrew hd' h1 h2 ?_⟩
      intro N hN a' w' hs'
      obtain ⟨hlen, hget⟩ := compOpers_get hv
      have hlt : (stripOps vs).length < os.toList.length := by rw [← hlen]; simp [stripOps]
      obtain ⟨v, hv1, hv2⟩ := hget _ _ (List.getElem?_eq_getElem hlt)
      have : v = last.strip := by
        rw [List.getElem?_append_right (Nat.le_refl _)] at hv1
        simpa [stripOps] using hv1.symm
      subst this
      have hn : σf.n = σ.n := steps1_n h1
      refine stepM_sound (o := os.toList[(stripOps vs).length]) (by rw [← Array.getElem?_toList]; exact List.getElem?_eq_getElem hlt) hv2 hs' (fun d hdd => by rw [hn]; exact bndOps_spec hb2 last (by simp) d hdd) h3 (fun σ' a'' w'' hk hn' hs'' => hN _ _ ?_)
      exact ⟨_, hk, (by show σ'.n = σ.n; rw [hn', hn]), weak_dropKeys _ _ _ _ _ _ _ hs''⟩

theorem pw_mono {P : Program} : ∀ (v : VCode) {Q Q' : Exit → St → Prop} {σ : St}, (∀ e σ, Q e σ → Q' e σ) → pw P v Q σ → pw P v Q' σ := by
  have opm : ∀ {σ : St} {dst : Option Nat} {K K' : Upd → Prop} {op : VOp}, (∀ u, K u → K' u) → opW P σ dst K op → opW P σ dst K' op := by
    intro σ dst K K' op hk h
    cases op
    case call f args =>
      simp only [opW] at h ⊢
      split at h
      · obtain ⟨r, h1, h2⟩ := h
        refine ⟨r, h1, ?_⟩
        split at h2
        · exact hk _ h2
        · exact h2
      · exact h
    case callV f args =>
      simp only [opW] at h ⊢
      split at h
      · obtain ⟨r, h1, h2⟩ := h
        refine ⟨r, h1, ?_⟩
        split at h2
        · exact hk _ h2
        · exact h2
      · exact h
    all_goals
      simp only [opW] at h ⊢
      split at h
      · exact ⟨h.1, hk _ h.2⟩
      · exact h
  have mm : ∀ {σ : St} {dst : Option Nat} {K K' : St → Prop} {op : VOp}, (∀ u, K u → K' u) → opM P σ dst K op → opM P σ dst K' op := by
    intro σ dst K K' op hk h
    cases op
    case callM f args =>
      obtain ⟨k, vals, mc, ρ, fz, h1, h2, h3, h4, h5, h6, h7⟩ := h
      exact ⟨k, vals, mc, ρ, fz, h1, h2, h3, h4, h5, h6, hk _ h7⟩
    case callMV f args =>
      obtain ⟨k, vals, mc, ρ, fz, h1, h2, h3, h4, h5, h6, h7⟩ := h
      exact ⟨k, vals, mc, ρ, fz, h1, h2, h3, h4, h5, h6, hk _ h7⟩
    all_goals
      simp only [opM] at h ⊢
      exact opm (fun u hu => hk _ hu) h
  have rm : ∀ (l : List VOper) {σ : St} {K K' : St → Prop}, (∀ σ, K σ → K' σ) → runM P K l σ → runM P K' l σ := by
    intro l
    induction l with
    | nil => intro σ K K' hk h; exact hk _ h
    | cons o r ih =>
      intro σ K K' hk h
      simp only [runM] at h ⊢
      split at h
      · exact mm (fun u hu => ih hk hu) h
      · split at h
        · exact ⟨fun hc => mm (fun u hu => ih hk hu) (h.1 hc), fun hc => ih hk (h.2 hc)⟩
        · exact h
  have rt : ∀ (l : List VOper) {σ : St} {K K' : St → Prop}, (∀ σ, K σ → K' σ) → runT P K l σ → runT P K' l σ := by
    intro l
    induction l with
    | nil => intro σ K K' hk h; exact hk _ h
    | cons o r ih =>
      intro σ K K' hk h
      simp only [runT] at h ⊢
      split at h
      · exact opm (fun u hu => ih hk hu) h
      · split at h
        · exact ⟨fun hc => opm (fun u hu => ih hk hu) (h.1 hc), fun hc => ih hk (h.2 hc)⟩
        · exact h
  have rd : ∀ (l : List VOper) {σ : St} {es : List Eff} {K K' : List Eff → St → Prop}, (∀ es σ, K es σ → K' es σ) → runD P K l σ es → runD P K' l σ es := by
    intro l
    induction l with
    | nil => intro σ es K K' hk h; exact hk _ _ h
    | cons o r ih =>
      intro σ es K K' hk h
      simp only [runD] at h ⊢
      split at h
      · exact opm (fun u hu => ih hk hu) h
      · split at h
        · exact ⟨fun hc => opm (fun u hu => ih hk hu) (h.1 hc), fun hc => ih hk (h.2 hc)⟩
        · exact h
  have rdm : ∀ (l : List VOper) {σ0 σ : St} {ps ms : List (Nat × Nat)} {es : List Eff} {K K' : St → Prop}, (∀ σ, K σ → K' σ) → runDM P K σ0 ps ms l σ es → runDM P K' σ0 ps ms l σ es := by
    intro l
    induction l with
    | nil => intro σ0 σ ps ms es K K' hk h; exact h
    | cons o r ih =>
      intro σ0 σ ps ms es K K' hk h
      cases r with
      | nil => exact ⟨h.1, rm [o] hk h.2⟩
      | cons o2 r =>
        simp only [runDM] at h ⊢
        split at h
        · exact opm (fun u hu => ih hk hu) h
        · exact h
  have lm : ∀ {w0 S0 M N} {Q Q' : Exit → St → Prop}, (∀ e σ, Q e σ → Q' e σ) → ∀ e a w, lift w0 S0 M N Q e a w → lift w0 S0 M N Q' e a w := by
    intro w0 S0 M N Q Q' hq e a w h
    cases e <;> first | exact h | (obtain ⟨σ, h1, h2⟩ := h; exact ⟨σ, hq _ _ h1, h2⟩)
  intro v
  induction v with
  | skip => intro Q Q' σ hq h; exact hq _ _ h
  | region ops mode dead =>
    intro Q Q' σ hq h
    cases mode with
    | text => exact rm ops (fun σ h => hq _ _ h) h
    | calm => exact rt ops (fun σ h => hq _ _ h) h
    | drawn ps ms => exact rd ops (fun es σ h => ⟨h.1, hq _ _ h.2⟩) h
    | drawnM ps ms => exact rdm ops (fun σ h => hq _ _ h) h
  | seq a b iha ihb =>
    intro Q Q' σ hq h
    refine iha (fun e σ' h' => ?_) h
    cases e <;> first | exact ihb hq h' | exact hq _ _ h'
  | cond c a b iha ihb =>
    intro Q Q' σ hq h
    simp only [pw] at h ⊢
    split at h
    · exact ⟨fun ht => iha hq (h.1 ht), fun ht => ihb hq (h.2 ht)⟩
    · exact ⟨iha hq h.1, ihb hq h.2⟩
    · exact h
  | block id a iha =>
    intro Q Q' σ hq h
    refine iha (fun e σ' h' => ?_) h
    cases e
    case exit i =>
      dsimp only at h' ⊢
      split
      · next hi => rw [if_pos hi] at h'; exact hq _ _ h'
      · next hi => rw [if_neg hi] at h'; exact hq _ _ h'
    all_goals exact hq _ _ h'
  | loop a _ => intro Q Q' σ hq h c hc hb w0 S0 M x w hs; exact wp_mono (h c hc hb w0 S0 M x w hs) (lm hq)
  | exit id => intro Q Q' σ hq h; exact hq _ _ h
  | scope a _ => intro Q Q' σ hq h c hc hb w0 S0 M x w hs; exact wp_mono (h c hc hb w0 S0 M x w hs) (lm hq)
  | label l => intro Q Q' σ hq h; exact hq _ _ h
  | goto l => intro Q Q' σ hq h; exact hq _ _ h
  | ret => intro Q Q' σ hq h; exact hq _ _ h
  | refuse => intro Q Q' σ hq h; exact h
  | cut a _ => intro Q Q' σ hq h c hc hb w0 S0 M x w hs; exact wp_mono (h c hc hb w0 S0 M x w hs) (lm hq)

/-- The slots of a frame stay as many as they are. -/
theorem sim_n {w0 : World} {S0 : Stab} {M : Ctx} {σ σ' : St} {a : Act} {w w' : World} (h : Sim w0 S0 M σ a w) (h' : Sim w0 S0 M σ' a w') : σ'.n = σ.n := by
  obtain ⟨_, _, _, h⟩ := h
  obtain ⟨_, _, _, h'⟩ := h'
  rw [← h.size, ← h'.size]

end Go.Vs
set_option linter.unusedVariables false
set_option linter.unusedSimpArgs false
namespace Go.Vs

theorem lift_other {w0 : World} {S0 : Stab} {M : Ctx} {N : Nat} {Q Q' : Exit → St → Prop} {e : Exit} {a : Act} {w : World} (h : ∀ σ, Q e σ → Q' e σ) (hl : lift w0 S0 M N Q e a w) : lift w0 S0 M N Q' e a w := by
  cases e <;> first | exact hl | (obtain ⟨σ, h1, h2⟩ := hl; exact ⟨σ, h _ h1, h2⟩)

/-- THE EVALUATOR IS RIGHT. -/
theorem pw_sound {P : Program} (hm : P.follows .mixedOrders = true) : ∀ (v : VCode) {Q : Exit → St → Prop} {σ : St}, pw P v Q σ → TV P v Q σ := by
  intro v
  induction v with
  | skip =>
    intro Q σ h c hc _ w0 S0 M a w hs
    have e : c = Code.skip := comp_cases hc; subst e
    exact wp_skip ⟨σ, h, rfl, hs⟩
  | region ops mode dead =>
    intro Q σ h c hc hb
    exact (region_sound hm hc hb h).t hm
  | seq x y ihx ihy =>
    intro Q σ h c hc hb w0 S0 M a w hs
    obtain ⟨p, q, rfl, h1, h2⟩ := comp_cases hc
    simp only [VCode.bnd, Bool.and_eq_true] at hb
    refine wp_seq (wp_mono (ihx h p h1 hb.1 w0 S0 M a w hs) (fun e a' w' hl => ?_))
    cases e
    case normal =>
      obtain ⟨σ', k1, k2, k3⟩ := hl
      have := ihy k1 q h2 (by rw [k2]; exact hb.2) w0 S0 M a' w' k3
      rw [k2] at this
      exact this
    all_goals exact hl
  | cond o x y ihx ihy =>
    intro Q σ h c hc hb w0 S0 M a w hs
    obtain ⟨p, q, r, rfl, h0, h1, h2⟩ := comp_cases hc
    simp only [VCode.bnd, Bool.and_eq_true] at hb
    simp only [pw] at h
    split at h
    · next t ht =>
      obtain ⟨S, μ, β, hg⟩ := id hs
      have hrel := opd_sound hg h0
      rw [ht] at hrel
      exact wp_cond_split hrel (fun e => ihx (h.1 e) q h1 hb.1 w0 S0 M a w hs) (fun e => ihy (h.2 e) r h2 hb.2 w0 S0 M a w hs)
    · next ht =>
      obtain ⟨S, μ, β, hg⟩ := id hs
      have hrel := opd_sound hg h0
      rw [ht] at hrel
      obtain ⟨t, hrel⟩ := hrel
      exact wp_cond_split hrel (fun _ => ihx h.1 q h1 hb.1 w0 S0 M a w hs) (fun _ => ihy h.2 r h2 hb.2 w0 S0 M a w hs)
    · exact h.elim
  | block id x ih =>
    intro Q σ h c hc hb w0 S0 M a w hs
    obtain ⟨p, rfl, h1⟩ := comp_cases hc
    refine wp_block (wp_mono (ih h p h1 hb w0 S0 M a w hs) (fun e a' w' hl => ?_))
    cases e
    case exit i =>
      obtain ⟨σ', k1, k2, k3⟩ := hl
      dsimp only at k1
      simp only [Exit.inBlock]
      split
      · next hi => rw [if_pos hi] at k1; exact ⟨σ', k1, k2, k3⟩
      · next hi => rw [if_neg hi] at k1; exact ⟨σ', k1, k2, k3⟩
    all_goals exact hl
  | loop x _ => exact fun h => h
  | exit id =>
    intro Q σ h c hc _ w0 S0 M a w hs
    have e : c = Code.exit id := comp_cases hc; subst e
    exact wp_exit ⟨σ, h, rfl, hs⟩
  | scope x _ => exact fun h => h
  | label l =>
    intro Q σ h c hc _ w0 S0 M a w hs
    have e : c = Code.label l := comp_cases hc; subst e
    exact wp_label ⟨σ, h, rfl, hs⟩
  | goto l =>
    intro Q σ h c hc _ w0 S0 M a w hs
    have e : c = Code.goto l := comp_cases hc; subst e
    exact wp_goto ⟨σ, h, rfl, hs⟩
  | refuse => intro Q σ h; exact h.elim
  | cut x _ => exact fun h => h
  | ret =>
    intro Q σ h c hc _ w0 S0 M a w hs
    have e : c = Code.ret := comp_cases hc; subst e
    exact wp_ret ⟨σ, h, rfl, hs⟩

section
variable {P : Program}

/-- A LOOP: states by an index, at each head one of them, lower each time. -/
theorem tv_loop (hm : P.follows .mixedOrders = true) {ι : Type} (I : ι → St) (A : ι → Prop) (m : ι → Nat) {b : VCode} {Q : Exit → St → Prop} {σ : St} (i0 : ι) (hA : A i0) (h0 : Weak σ (I i0)) (hn : ∀ i, (I i).n = σ.n)
    (round : ∀ i, A i → pw P b (fun e σ' => match e with
      | .normal => ∃ j, A j ∧ m j < m i ∧ Weak σ' (I j)
      | e => Q e σ') (I i)) : TV P (.loop b) Q σ := by
  intro c hc hb w0 S0 M a w hs
  obtain ⟨p, rfl, h1⟩ := comp_cases hc
  -- the index is carried beside
  have key : ∀ n i, m i = n → A i → ∀ a w, Sim w0 S0 M (I i) a w → (Code.loop p).wp P (lift w0 S0 M σ.n Q) a w := by
    intro n i hmi hAi a w hsi
    refine wp_loop (fun a w => ∃ i, A i ∧ Sim w0 S0 M (I i) a w) (fun a w => Classical.epsilon fun k => ∃ i, A i ∧ Sim w0 S0 M (I i) a w ∧ m i = k ∧ ∀ j, A j → Sim w0 S0 M (I j) a w → k ≤ m j) ⟨i, hAi, hsi⟩ ?_
    have least : ∀ (a : Act) (w : World), (∃ i, A i ∧ Sim w0 S0 M (I i) a w) → ∃ k, ∃ i, A i ∧ Sim w0 S0 M (I i) a w ∧ m i = k ∧ ∀ j, A j → Sim w0 S0 M (I j) a w → k ≤ m j := by
      intro a w ⟨i, hi1, hi2⟩
      have : ∀ n i, m i ≤ n → A i → Sim w0 S0 M (I i) a w → ∃ k, ∃ i, A i ∧ Sim w0 S0 M (I i) a w ∧ m i = k ∧ ∀ j, A j → Sim w0 S0 M (I j) a w → k ≤ m j := by
        intro n
        induction n with
        | zero => intro i hle h1 h2; exact ⟨m i, i, h1, h2, rfl, fun j _ _ => by omega⟩
        | succ n ih =>
          intro i hle h1 h2
          by_cases hex : ∃ j, A j ∧ Sim w0 S0 M (I j) a w ∧ m j < m i
          · obtain ⟨j, j1, j2, j3⟩ := hex
            exact ih j (by omega) j1 j2
          · exact ⟨m i, i, h1, h2, rfl, fun j j1 j2 => by
              rcases Nat.lt_or_ge (m j) (m i) with h | h
              · exact absurd ⟨j, j1, j2, h⟩ hex
              · exact h⟩
      exact this (m i) i (Nat.le_refl _) hi1 hi2
    intro a w hI
    have hle := least a w hI
    obtain ⟨i, hi1, hi2, hi3, hi4⟩ := Classical.epsilon_spec hle
    have hr := pw_sound hm b (round i hi1) p h1 (by rw [hn]; exact hb) w0 S0 M a w hi2
    refine wp_mono hr (fun e a' w' hl => ?_)
    cases e
    case normal =>
      obtain ⟨σ', ⟨j, j1, j2, j3⟩, _, k3⟩ := hl
      have hsj := j3 w0 S0 M a' w' k3
      have hle' := least a' w' ⟨j, j1, hsj⟩
      obtain ⟨_, _, _, _, hmin⟩ := Classical.epsilon_spec hle'
      refine ⟨⟨j, j1, hsj⟩, ?_⟩
      have := hmin j j1 hsj
      omega
    all_goals
      first
        | exact hl
        | (obtain ⟨σ', k1, k2, k3⟩ := hl; exact ⟨σ', k1, by rw [k2, hn], k3⟩)
  exact key _ i0 rfl hA a w (h0 w0 S0 M a w hs)

def vfind : VCode → Nat → Option VCode
  | .seq a b, l => match vfind a l with
    | some r => some (.seq r b)
    | none => vfind b l
  | .label l', l => if l' == l then some .skip else none
  | .cut a, l => vfind a l
  | _, _ => none
theorem vfind_sound : ∀ (v : VCode) {c : Code} {l : Nat} {r : VCode}, comp P c = some v.strip → vfind v l = some r → ∃ q, findLabel c l = some q ∧ comp P q = some r.strip ∧ ∀ n, v.bnd n = true → r.bnd n = true := by
  intro v
  induction v with
  | seq a b iha ihb =>
    intro c l r hc hf
    obtain ⟨p, q, rfl, h1, h2⟩ := comp_cases hc
    simp only [vfind] at hf
    split at hf
    · next r' hr' =>
      obtain rfl := Option.some.inj hf
      obtain ⟨q', k1, k2, k3⟩ := iha h1 hr'
      refine ⟨.seq q' q, by simp [findLabel, k1], by simp [comp, k2, h2, VCode.strip], fun n hn => ?_⟩
      simp only [VCode.bnd, Bool.and_eq_true] at hn ⊢
      exact ⟨k3 n hn.1, hn.2⟩
    · next hr' =>
      obtain ⟨q', k1, k2, k3⟩ := ihb h2 hf
      refine ⟨q', ?_, k2, fun n hn => ?_⟩
      · have : findLabel p l = none := by
          have none_of : ∀ (v : VCode) {c : Code}, comp P c = some v.strip → vfind v l = none → findLabel c l = none := by
            intro v
            induction v with
            | seq a b iha ihb =>
              intro c hc hf
              obtain ⟨p, q, rfl, h1, h2⟩ := comp_cases hc
              simp only [vfind] at hf
              split at hf
              · simp at hf
              · next hr => simp [findLabel, iha h1 hr, ihb h2 hf]
            | label l' =>
              intro c hc hf
              have e : c = Code.label l' := comp_cases hc; subst e
              simp only [vfind] at hf
              simp only [findLabel]
              split at hf
              · simp at hf
              · next h => rw [if_neg h]
            | region ops mode dead =>
              intro c hc _
              obtain ⟨id, os, draw, rfl, _⟩ := comp_strip_region hc
              rfl
            | skip => intro c hc _; have e : c = Code.skip := comp_cases hc; subst e; rfl
            | cond o a b => intro c hc _; obtain ⟨_, _, _, rfl, _⟩ := comp_cases hc; rfl
            | block id a => intro c hc _; obtain ⟨_, rfl, _⟩ := comp_cases hc; rfl
            | loop a => intro c hc _; obtain ⟨_, rfl, _⟩ := comp_cases hc; rfl
            | scope a => intro c hc _; obtain ⟨_, rfl, _⟩ := comp_cases hc; rfl
            | exit id => intro c hc _; have e : c = Code.exit id := comp_cases hc; subst e; rfl
            | goto l => intro c hc _; have e : c = Code.goto l := comp_cases hc; subst e; rfl
            | ret => intro c hc _; have e : c = Code.ret := comp_cases hc; subst e; rfl
            | refuse => intro c hc _; obtain ⟨_, rfl⟩ := comp_cases hc; rfl
            | cut a ih => intro c hc hf; exact ih hc hf
          exact none_of a h1 hr'
        simp [findLabel, this, k1]
      · simp only [VCode.bnd, Bool.and_eq_true] at hn
        exact k3 n hn.2
  | label l' =>
    intro c l r hc hf
    have e : c = Code.label l' := comp_cases hc; subst e
    simp only [vfind] at hf
    split at hf
    · next h =>
      obtain rfl := Option.some.inj hf
      exact ⟨.skip, by simp only [findLabel]; rw [if_pos h], rfl, fun _ _ => rfl⟩
    · simp at hf
  | cut a ih => intro c l r hc hf; exact ih hc hf
  | _ => intro c l r _ hf; simp [vfind] at hf

/-- JUMPS BACK to one label. -/
theorem tv_scope (hm : P.follows .mixedOrders = true) {ι : Type} (l : Nat) (I : ι → St) (A : ι → Prop) (m : ι → Nat) {b r : VCode} {Q : Exit → St → Prop} {σ : St} (hf : vfind b l = some r) (hn : ∀ i, (I i).n = σ.n)
    (first : pw P b (fun e σ' => match e with
      | .goto l' => l' = l ∧ ∃ j, A j ∧ Weak σ' (I j)
      | e => Q e σ') σ)
    (round : ∀ i, A i → pw P r (fun e σ' => match e with
      | .goto l' => l' = l ∧ ∃ j, A j ∧ m j < m i ∧ Weak σ' (I j)
      | e => Q e σ') (I i)) : TV P (.scope b) Q σ := by
  intro c hc hb w0 S0 M a w hs
  obtain ⟨p, rfl, h1⟩ := comp_cases hc
  obtain ⟨q, k1, k2, k3⟩ := vfind_sound b h1 hf
  have least : ∀ (a : Act) (w : World), (∃ i, A i ∧ Sim w0 S0 M (I i) a w) → ∃ k, ∃ i, A i ∧ Sim w0 S0 M (I i) a w ∧ m i = k ∧ ∀ j, A j → Sim w0 S0 M (I j) a w → k ≤ m j := by
    intro a w ⟨i, hi1, hi2⟩
    have : ∀ n i, m i ≤ n → A i → Sim w0 S0 M (I i) a w → ∃ k, ∃ i, A i ∧ Sim w0 S0 M (I i) a w ∧ m i = k ∧ ∀ j, A j → Sim w0 S0 M (I j) a w → k ≤ m j := by
      intro n
      induction n with
      | zero => intro i hle h1 h2; exact ⟨m i, i, h1, h2, rfl, fun j _ _ => by omega⟩
      | succ n ih =>
        intro i hle h1 h2
        by_cases hex : ∃ j, A j ∧ Sim w0 S0 M (I j) a w ∧ m j < m i
        · obtain ⟨j, j1, j2, j3⟩ := hex
          exact ih j (by omega) j1 j2
        · exact ⟨m i, i, h1, h2, rfl, fun j j1 j2 => by
            rcases Nat.lt_or_ge (m j) (m i) with h | h
            · exact absurd ⟨j, j1, j2, h⟩ hex
            · exact h⟩
    exact this (m i) i (Nat.le_refl _) hi1 hi2
  refine wp_scope_jumps l (fun a w => ∃ i, A i ∧ Sim w0 S0 M (I i) a w) (fun a w => Classical.epsilon fun k => ∃ i, A i ∧ Sim w0 S0 M (I i) a w ∧ m i = k ∧ ∀ j, A j → Sim w0 S0 M (I j) a w → k ≤ m j) k1 ?_ ?_
  · refine wp_mono (pw_sound hm b first p h1 hb w0 S0 M a w hs) (fun e a' w' hl => ?_)
    cases e
    case goto l' =>
      obtain ⟨σ', ⟨j1, j, j2, j3⟩, _, j4⟩ := hl
      exact ⟨j1, j, j2, j3 w0 S0 M a' w' j4⟩
    all_goals exact hl
  · intro a w hI
    have hle := least a w hI
    obtain ⟨i, hi1, hi2, hi3, hi4⟩ := Classical.epsilon_spec hle
    refine wp_mono (pw_sound hm r (round i hi1) q k2 (by rw [hn]; exact k3 _ hb) w0 S0 M a w hi2) (fun e a' w' hl => ?_)
    cases e
    case goto l' =>
      obtain ⟨σ', ⟨j1, j, j2, j3, j4⟩, _, j5⟩ := hl
      have hsj := j4 w0 S0 M a' w' j5
      obtain ⟨_, _, _, _, hmin⟩ := Classical.epsilon_spec (least a' w' ⟨j, j2, hsj⟩)
      refine ⟨j1, ⟨j, j2, hsj⟩, ?_⟩
      have := hmin j j2 hsj
      omega
    all_goals
      first
        | exact hl
        | (obtain ⟨σ', k1, k2, k3⟩ := hl; exact ⟨σ', k1, by rw [k2, hn], k3⟩)

/-- A JOIN: what follows is walked once, from each of some states. -/
theorem tv_cut (hm : P.follows .mixedOrders = true) {ι : Type} (I : ι → St) (A : ι → Prop) {x y : VCode} {Q : Exit → St → Prop} {σ : St} (hn : ∀ i, (I i).n = σ.n)
    (h1 : pw P x (fun e σ' => match e with
      | .normal => ∃ i, A i ∧ Weak σ' (I i)
      | e => Q e σ') σ) (h2 : ∀ i, A i → pw P y Q (I i)) : TV P (.seq x y) Q σ := by
  intro c hc hb w0 S0 M a w hs
  obtain ⟨p, q, rfl, k1, k2⟩ := comp_cases hc
  simp only [VCode.bnd, Bool.and_eq_true] at hb
  refine wp_seq (wp_mono (pw_sound hm x h1 p k1 hb.1 w0 S0 M a w hs) (fun e a' w' hl => ?_))
  cases e
  case normal =>
    obtain ⟨σ', ⟨i, hA, hw⟩, j2, j3⟩ := hl
    have := pw_sound hm y (h2 i hA) q k2 (by rw [hn]; exact hb.2) w0 S0 M a' w' (hw w0 S0 M a' w' j3)
    rw [hn] at this
    exact this
  all_goals exact hl

/- WHAT MAY BE FORGOTTEN AT A LOOP's HEAD -/
def EnvLe (env : List (Nat × SV)) : List (Nat × SV) → Prop
  | [] => True
  | (k, v) :: r => getE env k = v ∧ EnvLe env r
def ObLe (objs : List (Nat × Ob)) : List (Nat × Ob) → Prop
  | [] => True
  | (k, o) :: r => look objs k = some o ∧ ObLe objs r
def RoLe (ro : List Nat) : List Nat → Bool
  | [] => true
  | i :: r => ro.contains i && RoLe ro r
theorem envLe_get {env : List (Nat × SV)} : ∀ {l : List (Nat × SV)}, EnvLe env l → ∀ k, getE l k = .undef ∨ getE l k = getE env k
  | [], _, _ => .inl rfl
  | (j, v) :: r, h, k => by
    simp only [getE, look]
    cases hj : j == k with
    | true => rw [beq_iff_eq] at hj; subst hj; exact .inr h.1.symm
    | false => exact envLe_get h.2 k
theorem obLe_look {objs : List (Nat × Ob)} : ∀ {l : List (Nat × Ob)}, ObLe objs l → ∀ k o, look l k = some o → look objs k = some o
  | [], _, _, _, h => by simp [look] at h
  | (j, v) :: r, h, k, o, hk => by
    simp only [look] at hk
    cases hj : j == k with
    | true => rw [hj] at hk; rw [beq_iff_eq] at hj; subst hj; simp at hk; subst hk; exact h.1
    | false => rw [hj] at hk; exact obLe_look h.2 k o hk
/-- Which of the objects that stay are frozen. -/
def roOk (ro ro' : List Nat) : List (Nat × Ob) → Bool
  | [] => true
  | (k, _) :: r => (!ro.contains k || ro'.contains k) && roOk ro ro' r
theorem roOk_spec {ro ro' : List Nat} : ∀ {l : List (Nat × Ob)}, roOk ro ro' l = true → ∀ i o, look l i = some o → i ∈ ro → i ∈ ro'
  | [], _, _, _, h, _ => by simp [look] at h
  | (j, v) :: r, h, i, o, hl, hi => by
    simp only [roOk, Bool.and_eq_true] at h
    simp only [look] at hl
    cases hj : j == i with
    | true =>
      rw [beq_iff_eq] at hj
      subst hj
      have := h.1
      simp only [Bool.or_eq_true, Bool.not_eq_true'] at this
      rcases this with h1 | h1
      · have : ro.contains j = true := by simpa using hi
        rw [this] at h1; simp at h1
      · simpa using h1
    | false => rw [hj] at hl; exact roOk_spec h.2 i o hl hi

theorem weak_drop {σ σ' : St} (hn : σ'.n = σ.n) (hgl : σ'.gl = σ.gl) (he : EnvLe σ.env σ'.env) (ho : ObLe σ.objs σ'.objs) (hr : roOk σ.ro σ'.ro σ'.objs = true) : Weak σ σ' := by
  rintro w0 S0 M a w ⟨S, μ, β, h⟩
  exact ⟨S, μ, β, h.drop hn hgl (roOk_spec hr) (envLe_get he) (obLe_look ho)⟩

/-- A nil slice is an array of its own, with nothing in it. -/
def St.adopt (σ : St) (k id s : Nat) : St := { σ with env := put (eraseE id σ.env) k (.own id 0), objs := eraseO id (put σ.objs id (.arr 0 s [])) }
theorem weak_adopt {σ : St} {k : Nat} (id s : Nat) (hid : id < σ.n) (hk : getE σ.env k = .nils) : Weak σ (σ.adopt k id s) := by
  rintro w0 S0 M a w ⟨S, μ, β, h⟩
  have hrel := h.env k
  rw [hk] at hrel
  obtain ⟨x, hx⟩ := hrel
  have h1 := h.create id hid (.arr 0 s []) none (.slice x 0 0) (Kept.refl _ _) (by simp) (.inl ⟨rfl, rfl, x, rfl⟩)
  have hkn : k < σ.n := by
    rcases Nat.lt_or_ge k σ.n with hh | hh
    · exact hh
    · rw [← h.size] at hh
      rw [Array.getD, dif_neg (by omega)] at hx
      simp [Go.undef] at hx
  have h2 := h1.put (sv := .own id 0) (v := .slice x 0 0) hkn (by
    intro cv s' rows hl
    rw [look_eraseO, look_put_self] at hl
    simp only [Option.map_some, Ob.erase, Option.some.injEq, Ob.arr.injEq] at hl
    obtain ⟨rfl, _, _⟩ := hl
    exact ⟨Nat.le_refl _, fun _ => by simp⟩)
  have ha : a.put (some k) (.slice x 0 0) = a := by
    have hlt : k < a.tmps.size := by rw [h.size]; exact hkn
    have : a.tmps.setIfInBounds k (.slice x 0 0) = a.tmps := by
      apply Array.ext
      · simp
      · intro i h3 h4
        rw [Array.getElem_setIfInBounds]
        split
        · next e => subst e; rw [← hx]; simp [h4]
        · rfl
    simp only [Act.put, this]
  rw [ha] at h2
  exact ⟨S, _, _, h2⟩
/-- An array of the call's own, from now on never written. -/
theorem weak_freeze {σ : St} {k id ver s : Nat} {rows : List (List IV)} (hk : getE σ.env k = .own id ver) (hl : look σ.objs id = some (.arr ver s rows)) :
    Weak σ { σ with env := put σ.env k (.val (.slice rows)), ro := id :: σ.ro } := by
  rintro w0 S0 M a w ⟨S, μ, β, h⟩
  have hrel := h.env k
  rw [hk] at hrel
  have hv := (hrel _ _ _ hl).2 rfl
  have h2 := h.freeze [id]
  have hr := arr_rep h hl (fz := [id]) (by simp)
  rw [← hv] at hr
  refine ⟨_, μ, β, { h2 with env := fun k' => ?_ }⟩
  show SVRel w _ μ σ.objs (getE (Vs.put σ.env k (.val (.slice rows))) k') _
  rw [getE_put]
  split
  · next e => subst e; exact hr
  · exact h2.env k'


end
end Go.Vs
set_option linter.unusedVariables false
set_option linter.unusedSimpArgs false
namespace Go.Vs

inductive VRes where
  | tmp (t : Nat)
  | cell (t : Nat) (agg : Option Nat)
  deriving Inhabited, Repr
def compRes (P : Program) : List ResultVar → Option (List VRes)
  | [] => some []
  | .tmp t :: r => (compRes P r).map (VRes.tmp t :: ·)
  | .cell t ty :: r => match aggOf P ty, compRes P r with
    | some g, some rs => some (.cell t g :: rs)
    | _, _ => none

def resIV (σ : St) : VRes → Option (IV × List Nat)
  | .tmp t => toIV σ.objs (getE σ.env t)
  | .cell t g => match getE σ.env t with
    | .loc id off => match look σ.objs id with
      | some (.box cells) => match g with
        | some n => if off + n ≤ cells.length then toIV σ.objs (mkAgg ((cells.drop off).take n)) else none
        | none => match cells[off]? with
          | some c => toIV σ.objs c
          | none => none
      | _ => none
    | _ => none
def resIVs (σ : St) : List VRes → Option (List IV × List Nat)
  | [] => some ([], [])
  | x :: r => match resIV σ x, resIVs σ r with
    | some (v, f), some (vs, fs) => some (v :: vs, f ++ fs)
    | _, _ => none
def resAll (σ : St) (rs : List VRes) : Option IV := match resIVs σ rs with
  | some ([v], _) => some v
  | some (vs, _) => some (.tuple vs)
  | none => none
def resOwn (σ : St) : List VRes → Option (Nat × List (List IV))
  | [.tmp t] => match getE σ.env t with
    | .own id ver => match look σ.objs id with
      | some (.arr cv s rows) => if ver == cv && !σ.ro.contains id then some (s, rows) else none
      | _ => none
    | _ => none
  | _ => none

/-- What a function gives. -/
def fnPost (rs : List VRes) (r : Res) : Exit → St → Prop
  | .normal, σ => match r with
    | .imm v => resAll σ rs = some v
    | .own s rows => resOwn σ rs = some (s, rows)
  | .ret, σ => match r with
    | .imm v => resAll σ rs = some v
    | .own s rows => resOwn σ rs = some (s, rows)
  | _, _ => False

def env0 : Nat → List IV → List (Nat × SV)
  | _, [] => []
  | i, x :: r => (i, .val x) :: env0 (i + 1) r
def st0 (gl : List (Nat × List IV)) (args : List IV) (n : Nat) : St := ⟨env0 0 args, [], [], n, gl⟩
/-- Nothing that was may be written, no handle is held. -/
def Ctx.nothing : Ctx := ⟨fun _ => False, [], fun _ => Go.undef, []⟩

/-- A function, as it is translated. -/
structure FnOk (P : Program) (k : FuncId) (v : VCode) (rs : List VRes) (n : Nat) : Prop where
  ok : ∃ fn c, P.funcs[k]? = some fn ∧ fn.name ≠ "runtime.NumGoroutine" ∧ fn.body = some c ∧ comp P c = some v.strip ∧ v.bnd n = true ∧ compRes P fn.results.toList = some rs ∧ fn.ntmps = n

theorem env0_get {w : World} {S : Stab} {μ : Nat → Value} {objs : List (Nat × Ob)} : ∀ {args : List IV} {vs : List Value} (i : Nat), RepList w S args vs → ∀ k, SVRel w S μ objs (getE (env0 i args) k) ((vs[k - i]?).getD Go.undef)
  | [], _, i, _, k => trivial
  | x :: r, _, i, ⟨v, vs', h1, h2, h3⟩, k => by
    subst h1
    simp only [env0, getE, look]
    cases hk : i == k with
    | true =>
      rw [beq_iff_eq] at hk
      subst hk
      simp only [cond_true, Option.getD_some, Nat.sub_self, List.getElem?_cons_zero]
      exact h2
    | false =>
      have hne : i ≠ k := by simpa using hk
      have ih := env0_get (μ := μ) (objs := objs) (i + 1) h3 k
      simp only [cond_false]
      rcases Nat.lt_or_ge i k with hlt | hge
      · rw [show k - i = (k - (i + 1)) + 1 by omega]
        rw [List.getElem?_cons_succ]
        exact ih
      · have : getE (env0 (i + 1) r) k = .undef := by
          have gen : ∀ (l : List IV) (j : Nat), k < j → getE (env0 j l) k = .undef := by
            intro l
            induction l with
            | nil => intro j _; rfl
            | cons y l ih =>
              intro j hj
              have : (j == k) = false := by simp; omega
              simp only [env0, getE, look, this, cond_false]
              exact ih (j + 1) (by omega)
          exact gen r (i + 1) (by omega)
        show SVRel _ _ _ _ (getE (env0 (i + 1) r) k) _
        rw [this]
        trivial

theorem sim0 {w : World} {S : Stab} {args : List IV} {vs : List Value} (hS : ∀ b o, S b o → b < w.heap.size) (h : RepList w S args vs) {gl : List (Nat × List IV)} (hgl : ∀ p, p ∈ gl → RepGl w S p) {n : Nat} (hn : args.length ≤ n) :
    Sim w S Ctx.nothing (st0 gl args n) { tmps := vs.toArray ++ Array.replicate (n - vs.toArray.size) Go.undef, defers := [] } w := by
  have hl := RepList.length h
  refine ⟨S, fun _ => Go.undef, fun _ => none, { defers := rfl, size := ?_, env := ?_, objs := ?_, inj := ?_, own := ?_, unst := ?_, stab := hS, ext := fun _ _ x => x, back := fun _ _ x => .inl x, kept := Kept.refl _ _, stay := fun _ _ _ => rfl, hist := fun p hp => by simp [Ctx.nothing] at hp, far := fun p hp => by simp [Ctx.nothing] at hp, glob := hgl }⟩
  · simp [st0]; omega
  · intro k
    have := env0_get (μ := fun _ => Go.undef) (objs := []) 0 h k
    have e : (vs.toArray ++ Array.replicate (n - vs.toArray.size) Go.undef).getD k Go.undef = (vs[k - 0]?).getD Go.undef := by
      rw [Nat.sub_zero]
      rcases Nat.lt_or_ge k vs.length with hk | hk
      · simp [Array.getD, hk, Array.getElem_append_left, Nat.lt_add_right]
      · rw [List.getElem?_eq_none hk, Option.getD_none]
        rw [Array.getD_eq_getD_getElem?, Array.getElem?_append_right (by simpa using hk), Array.getElem?_replicate]
        split <;> rfl
    show SVRel _ _ _ _ (getE (env0 0 args) k) _
    rw [e]
    exact this
  · intro id o ho; simp [st0, look] at ho
  · intro id id' o o' b ho; simp [st0, look] at ho
  · intro id o b ho; simp [st0, look] at ho
  · intro id o b off ho; simp [st0, look] at ho

section
variable {P : Program}

theorem resIV_sound {w0 w : World} {S0 S : Stab} {M : Ctx} {σ : St} {a : Act} {μ : Nat → Value} {β : Nat → Option Nat} (h : SimG w0 S0 M σ a w S μ β) {rv : ResultVar} {x : VRes} {l : List ResultVar} {rs : List VRes} (hc : compRes P (rv :: l) = some (x :: rs)) {v : IV} {fz fz' : List Nat}
    (hr : resIV σ x = some (v, fz)) (hf : ∀ i, i ∈ fz → i ∈ fz') :
    ∃ u, (match rv with | .tmp t => (pure (a.tmps.getD t Go.undef) : Sem Value) | .cell ad t => do loadVar t (← asAddr (a.tmps.getD ad Go.undef))).run P w = .ok u w ∧ Rep w (Plus S β σ.objs fz') v u := by
  cases rv with
  | tmp t =>
    simp only [compRes, Option.map_eq_some_iff] at hc
    obtain ⟨r, _, he⟩ := hc
    simp only [List.cons.injEq] at he
    obtain ⟨rfl, _⟩ := he
    exact ⟨_, rfl, toIV_sound h hr hf (h.env t)⟩
  | cell t ty =>
    simp only [compRes] at hc
    split at hc
    · next g rs' hg _ =>
      simp only [Option.some.injEq, List.cons.injEq] at hc
      obtain ⟨rfl, _⟩ := hc
      simp only [resIV] at hr
      split at hr
      · next id off heq =>
        have hrel := h.env t
        rw [heq] at hrel
        split at hr
        · next cells hl =>
          obtain ⟨b, vs, e, fr, _, _, hv, hh, _, hcs⟩ := box_cells h hl hrel
          split at hr
          · next n =>
            split at hr
            · next hle =>
              have hr' := SVOnes.take n (SVOnes.drop off hcs)
              have hlen : ((vs.toList.drop off).take n).length = n := by
                have := SVOnes.length hcs
                rw [List.length_take, List.length_drop]; omega
              refine ⟨.agg ((vs.toList.drop off).take n).toArray, ?_, toIV_sound h hr hf (mkAgg_sound hr')⟩
              simp only [hv, asAddr, Sem.run_bind, Sem.run_pure, Result.andThen_ok]
              exact loadVar_agg hg hlen (fun j v hj => by
                rw [List.getElem?_take] at hj
                split at hj
                · rw [List.getElem?_drop, Array.getElem?_toList] at hj
                  rw [cell_row hh]; exact hj
                · simp at hj)
            · simp at hr
          · split at hr
            · next c hcc =>
              obtain ⟨v', h1, _, h2⟩ := SVOnes.get hcs hcc
              refine ⟨v', ?_, toIV_sound h hr hf h2⟩
              simp only [hv, asAddr, Sem.run_bind, Sem.run_pure, Result.andThen_ok]
              exact loadVar_one hg (by rw [cell_row hh]; rw [Array.getElem?_toList] at h1; exact h1)
            · simp at hr
        · simp at hr
      · simp at hr
    · simp at hc

theorem resIVs_sound {w0 w : World} {S0 S : Stab} {M : Ctx} {σ : St} {a : Act} {μ : Nat → Value} {β : Nat → Option Nat} (h : SimG w0 S0 M σ a w S μ β) : ∀ {l : List ResultVar} {rs : List VRes}, compRes P l = some rs → ∀ {vs : List IV} {fz fz' : List Nat},
    resIVs σ rs = some (vs, fz) → (∀ i, i ∈ fz → i ∈ fz') →
    ∃ us, (l.mapM (m := Sem) fun rv => match rv with | .tmp t => (pure (a.tmps.getD t Go.undef) : Sem Value) | .cell ad t => do loadVar t (← asAddr (a.tmps.getD ad Go.undef))).run P w = .ok us w ∧ RepList w (Plus S β σ.objs fz') vs us
  | [], rs, hc, vs, fz, fz', hr, _ => by
    simp only [compRes, Option.some.injEq] at hc
    subst hc
    simp only [resIVs, Option.some.injEq, Prod.mk.injEq] at hr
    obtain ⟨rfl, _⟩ := hr
    exact ⟨[], rfl, rfl⟩
  | rv :: l, rs, hc, vs, fz, fz', hr, hf => by
    obtain ⟨x, rs', rfl, hc'⟩ : ∃ x rs', rs = x :: rs' ∧ compRes P l = some rs' := by
      cases rv with
      | tmp t =>
        simp only [compRes, Option.map_eq_some_iff] at hc
        obtain ⟨r, h1, he⟩ := hc
        exact ⟨_, r, he.symm, h1⟩
      | cell t ty =>
        simp only [compRes] at hc
        split at hc
        · next g r hg h1 => obtain rfl := Option.some.inj hc; exact ⟨_, r, rfl, h1⟩
        · simp at hc
    simp only [resIVs] at hr
    split at hr
    · next v f vs' fs h1 h2 =>
      simp only [Option.some.injEq, Prod.mk.injEq] at hr
      obtain ⟨rfl, rfl⟩ := hr
      obtain ⟨u, r1, r2⟩ := resIV_sound h hc h1 (fun i hi => hf i (List.mem_append_left _ hi))
      obtain ⟨us, r3, r4⟩ := resIVs_sound h hc' h2 (fun i hi => hf i (List.mem_append_right _ hi))
      refine ⟨u :: us, ?_, ⟨u, us, rfl, r2, r4⟩⟩
      rw [List.mapM_cons]
      simp only [Sem.run_bind, r3, Sem.run_pure]
      cases rv <;> simp only at r1 <;> (first | (rw [Sem.run_bind] at r1) | skip) <;> simp_all [Result.andThen]
    · simp at hr

/-- A FUNCTION's CONTRACT, by its code. -/
theorem fn_intro (hm : P.follows .mixedOrders = true) {k : FuncId} {v : VCode} {rs : List VRes} {n : Nat} (hok : FnOk P k v rs n) {gl : List (Nat × List IV)} {args : List IV} {r : Res} (hn : args.length ≤ n) (h : pw P v (fnPost rs r) (st0 gl args n)) : FnR gl P k args r := by
  obtain ⟨fn, c, hf, hname, hbody, hcomp, hbnd, hres, hnt⟩ := hok
  refine ⟨⟨fn, hf, hname⟩, fun w S vs hS hrep hgl => .inl ⟨⟨fn, hf, by rw [hbody]; rfl⟩, ?_⟩⟩
  subst hnt
  refine calls_of_wp hf hbody ?_
  refine wp_mono (pw_sound hm v h c hcomp hbnd w S Ctx.nothing _ w (sim0 hS hrep hgl hn)) (fun e a w' hlift => ?_)
  have fin : ∀ σ, fnPost rs r .ret σ → Sim w S Ctx.nothing σ a w' → a.defers = [] ∧ ∃ u, (results fn a.tmps).run P w' = .ok u w' ∧ ∃ v S', Ending.returned u = .returned v ∧ ResRel w S w' S' r v ∧ (∀ b o, S b o → S' b o) ∧ (∀ b o, S' b o → S b o ∨ w.heap.size ≤ b) ∧ (∀ b o, S' b o → b < w'.heap.size) ∧ Kept (fun _ => False) w w' := by
    rintro σ hp ⟨S1, μ, β, hg⟩
    refine ⟨hg.defers, ?_⟩
    cases r with
    | imm x =>
      simp only [fnPost, resAll] at hp
      have mapM_eq : ∀ us : List Value, (fn.results.toList.mapM (m := Sem) fun rv => match rv with | .tmp t => (pure (a.tmps.getD t Go.undef) : Sem Value) | .cell ad t => do loadVar t (← asAddr (a.tmps.getD ad Go.undef))).run P w' = .ok us w' →
          (results fn a.tmps).run P w' = .ok (if h : us.toArray.size = 1 then us.toArray[0] else .tuple us.toArray) w' := by
        intro us hus
        unfold results
        rw [Sem.run_bind, Array.mapM_eq_mapM_toList]
        have : ((List.toArray <$> fn.results.toList.mapM (m := Sem) fun rv => match rv with | .tmp t => (pure (a.tmps.getD t Go.undef) : Sem Value) | .cell ad t => do loadVar t (← asAddr (a.tmps.getD ad Go.undef))) : Sem (Array Value)).run P w' = .ok us.toArray w' := by
          rw [Sem.run_map, hus]; rfl
        first
          | (rw [this]; rfl)
          | (erw [this]; rfl)
      have ext : ∀ fz, (∀ b o, S b o → Plus S1 β σ.objs fz b o) ∧ (∀ b o, Plus S1 β σ.objs fz b o → S b o ∨ w.heap.size ≤ b) ∧ (∀ b o, Plus S1 β σ.objs fz b o → b < w'.heap.size) := by
        intro fz
        have h2 := hg.freeze fz
        refine ⟨fun b o hb => .inl (hg.ext b o hb), fun b o hb => ?_, h2.stab⟩
        rcases h2.back b o hb with h3 | h3 | h3
        · exact .inl h3
        · exact .inr h3
        · exact h3.elim
      split at hp
      · next v' fz hv =>
        obtain rfl := Option.some.inj hp
        obtain ⟨us, h1, h2⟩ := resIVs_sound (fz' := fz) hg hres hv (fun _ x => x)
        obtain ⟨u, us', rfl, h3, h4⟩ := h2
        have h4 : us' = [] := h4
        subst h4
        have := mapM_eq _ h1
        exact ⟨u, by simpa using this, u, _, rfl, h3, (ext fz).1, (ext fz).2.1, (ext fz).2.2, hg.kept⟩
      · next vs' fz hne hv =>
        obtain rfl := Option.some.inj hp
        obtain ⟨us, h1, h2⟩ := resIVs_sound (fz' := fz) hg hres hv (fun _ x => x)
        have := mapM_eq _ h1
        have hsz : ¬ us.toArray.size = 1 := by
          have hlen := RepList.length h2
          simp only [List.size_toArray, hlen]
          intro h1
          obtain ⟨v, rfl⟩ := List.length_eq_one_iff.mp h1
          first | exact hne v fz rfl | exact hne v rfl | exact hne _ _ hv
        rw [dif_neg hsz] at this
        exact ⟨_, this, _, _, rfl, ⟨us.toArray, rfl, by simpa using h2⟩, (ext fz).1, (ext fz).2.1, (ext fz).2.2, hg.kept⟩
      · simp at hp
    | own s rows =>
      simp only [fnPost] at hp
      unfold resOwn at hp
      split at hp
      · next t =>
        split at hp
        · next id ver heq =>
          split at hp
          · next cv s' rows' hl =>
            split at hp
            · next hcond =>
              simp only [Option.some.injEq, Prod.mk.injEq] at hp
              obtain ⟨rfl, rfl⟩ := hp
              simp only [Bool.and_eq_true, Bool.not_eq_true'] at hcond
              have hver : ver = cv := by simpa using hcond.1
              have hro : id ∉ σ.ro := by simpa using hcond.2
              have hrel := hg.env t
              rw [heq] at hrel
              have hv := (hrel _ _ _ hl).2 hver
              have hfr : fn.results.toList = [.tmp t] := by
                cases hfl : fn.results.toList with
                | nil => rw [hfl] at hres; simp [compRes] at hres
                | cons rv l =>
                  rw [hfl] at hres
                  cases rv with
                  | tmp t' =>
                    simp only [compRes, Option.map_eq_some_iff, List.cons.injEq] at hres
                    obtain ⟨r, h1, h2, rfl⟩ := hres
                    simp only [VRes.tmp.injEq] at h2
                    subst h2
                    cases l with
                    | nil => rfl
                    | cons y l =>
                      exfalso
                      cases y <;> simp only [compRes, Option.map_eq_some_iff] at h1
                      · obtain ⟨_, _, h3⟩ := h1; simp at h3
                      · split at h1 <;> simp at h1
                  | cell a ty =>
                    simp only [compRes] at hres
                    split at hres <;> simp at hres
              have hfr' := toList_one hfr
              refine ⟨a.tmps.getD t Go.undef, by simp [results, hfr'], a.tmps.getD t Go.undef, S1, rfl, ⟨β id, ?_, fun b hb => ⟨?_, fun off hS => hro (hg.unst id _ b off hl hb hS).1⟩⟩, hg.ext, fun b o hb => ?_, hg.stab, hg.kept⟩
              · rw [hv]; exact hg.objs id _ hl
              · rcases hg.own id _ b hl hb with h1 | h1
                · exact h1
                · exact h1.elim
              · rcases hg.back b o hb with h1 | h1 | h1
                · exact .inl h1
                · exact .inr h1
                · exact h1.elim
            · simp at hp
          · simp at hp
        · simp at hp
      · simp at hp
  cases e
  case normal => obtain ⟨σ, h1, _, h2⟩ := hlift; exact fin σ h1 h2
  case ret => obtain ⟨σ, h1, _, h2⟩ := hlift; exact fin σ h1 h2
  case panic => exact hlift.elim
  case outgrown => exact hlift.elim
  case exit => obtain ⟨σ, h1, _⟩ := hlift; exact h1.elim
  case goto => obtain ⟨σ, h1, _⟩ := hlift; exact h1.elim

end
end Go.Vs
set_option linter.unusedVariables false
set_option linter.unusedSimpArgs false
namespace Go.Vs

def envS : Nat → List SV → List (Nat × SV)
  | _, [] => []
  | i, x :: r => (i, x) :: envS (i + 1) r
def stM (gl : List (Nat × List IV)) (c : MC) (n : Nat) : St := ⟨envS 0 c.args, c.objs, c.ro, n, gl⟩
def farK (n : Nat) : List (Nat × Ob) → Bool
  | [] => true
  | (i, _) :: r => decide (n ≤ i) && farK n r
theorem farK_get {n : Nat} : ∀ {l : List (Nat × Ob)}, farK n l = true → ∀ i o, look l i = some o → n ≤ i
  | [], _, _, _, h => by simp [look] at h
  | (j, x) :: r, hk, i, o, h => by
    simp only [farK, Bool.and_eq_true, decide_eq_true_eq] at hk
    simp only [look] at h
    cases hj : j == i
    · rw [hj] at h; exact farK_get hk.2 i o h
    · rw [beq_iff_eq] at hj; subst hj; exact hk.1
def resM (σ : St) : List VRes → Option (SV × List Nat)
  | [] => some (.val (.tuple []), [])
  | [.tmp t] => some (getE σ.env t, [])
  | [.cell t g] => match getE σ.env t with
    | .loc id off => match look σ.objs id with
      | some (.box cells) => match g with
        | some n => if off + n ≤ cells.length then some (mkAgg ((cells.drop off).take n), []) else none
        | none => match cells[off]? with
          | some c => some (c, [])
          | none => none
      | _ => none
    | _ => none
  | rs => match resIVs σ rs with
    | some (vs, fz) => some (.val (.tuple vs), fz)
    | none => none
def resTup (σ : St) : List VRes → Option (List SV)
  | [] => some []
  | .tmp t :: r => (resTup σ r).map (getE σ.env t :: ·)
  | .cell t (some n) :: r => match getE σ.env t with
    | .loc id off => match look σ.objs id with
      | some (.box cells) => if off + n ≤ cells.length then (resTup σ r).map (mkAgg ((cells.drop off).take n) :: ·) else none
      | _ => none
    | _ => none
  | .cell _ none :: _ => none
/-- What it gives, as it is asked for. -/
def resC (σ : St) (rs : List VRes) : SV → Option (SV × List Nat)
  | .tup _ => match rs with
    | _ :: _ :: _ => (resTup σ rs).map fun l => (.tup l, [])
    | _ => none
  | _ => resM σ rs
/-- What it gives and leaves. -/
def fnPostM (rs : List VRes) (c : MC) : Exit → St → Prop
  | .normal, σ => ∃ σ' fz, Weak σ σ' ∧ σ'.objs = c.objs' ∧ resC σ' rs c.res = some (c.res, fz) ∧ c.ro' = fz ++ σ'.ro
  | .ret, σ => ∃ σ' fz, Weak σ σ' ∧ σ'.objs = c.objs' ∧ resC σ' rs c.res = some (c.res, fz) ∧ c.ro' = fz ++ σ'.ro
  | _, _ => False

theorem envS_get {w : World} {S : Stab} {μ : Nat → Value} {objs : List (Nat × Ob)} : ∀ {args : List SV} {vs : List Value} (i : Nat), SVList w S μ objs args vs → ∀ k, SVRel w S μ objs (getE (envS i args) k) ((vs[k - i]?).getD Go.undef)
  | [], _, i, _, k => trivial
  | x :: r, _, i, ⟨v, vs', h1, h2, h3⟩, k => by
    subst h1
    simp only [envS, getE, look]
    cases hk : i == k with
    | true =>
      rw [beq_iff_eq] at hk
      subst hk
      simp only [cond_true, Option.getD_some, Nat.sub_self, List.getElem?_cons_zero]
      exact h2
    | false =>
      have hne : i ≠ k := by simpa using hk
      have ih := envS_get (i + 1) h3 k
      simp only [cond_false]
      rcases Nat.lt_or_ge i k with hlt | hge
      · rw [show k - i = (k - (i + 1)) + 1 by omega]
        rw [List.getElem?_cons_succ]
        exact ih
      · have : getE (envS (i + 1) r) k = .undef := by
          have gen : ∀ (l : List SV) (j : Nat), k < j → getE (envS j l) k = .undef := by
            intro l
            induction l with
            | nil => intro j _; rfl
            | cons y l ih =>
              intro j hj
              have : (j == k) = false := by simp; omega
              simp only [envS, getE, look, this, cond_false]
              exact ih (j + 1) (by omega)
          exact gen r (i + 1) (by omega)
        show SVRel _ _ _ _ (getE (envS (i + 1) r) k) _
        rw [this]
        trivial
theorem SVList.length {w : World} {S : Stab} {μ : Nat → Value} {objs : List (Nat × Ob)} : ∀ {xs : List SV} {vs : List Value}, SVList w S μ objs xs vs → vs.length = xs.length
  | [], _, h => by have h : _ = _ := h; subst h; rfl
  | _ :: _, _, ⟨_, _, h1, _, h3⟩ => by subst h1; simp [SVList.length h3]

theorem results_run {P : Program} {fn : Func} {tmps : Array Value} {w : World} {us : List Value} (h : (fn.results.toList.mapM (m := Sem) fun rv => match rv with | .tmp t => (pure (tmps.getD t Go.undef) : Sem Value) | .cell ad t => do loadVar t (← asAddr (tmps.getD ad Go.undef))).run P w = .ok us w) :
    (results fn tmps).run P w = .ok (if h : us.toArray.size = 1 then us.toArray[0] else .tuple us.toArray) w := by
  unfold results
  rw [Sem.run_bind, Array.mapM_eq_mapM_toList]
  have : ((List.toArray <$> fn.results.toList.mapM (m := Sem) fun rv => match rv with | .tmp t => (pure (tmps.getD t Go.undef) : Sem Value) | .cell ad t => do loadVar t (← asAddr (tmps.getD ad Go.undef))) : Sem (Array Value)).run P w = .ok us.toArray w := by
    rw [Sem.run_map, h]; rfl
  first
    | (rw [this]; rfl)
    | (erw [this]; rfl)

theorem compRes_length {P : Program} : ∀ {l : List ResultVar} {rs : List VRes}, compRes P l = some rs → l.length = rs.length
  | [], rs, h => by simp only [compRes, Option.some.injEq] at h; subst h; rfl
  | .tmp t :: l, rs, h => by
    simp only [compRes, Option.map_eq_some_iff] at h
    obtain ⟨r, h1, rfl⟩ := h
    simp [compRes_length h1]
  | .cell t ty :: l, rs, h => by
    simp only [compRes] at h
    split at h
    · next g r hg h1 => obtain rfl := Option.some.inj h; simp [compRes_length h1]
    · simp at h

section
variable {P : Program}
theorem resM_sound {w0 w : World} {S0 S : Stab} {M : Ctx} {σ : St} {a : Act} {μ : Nat → Value} {β : Nat → Option Nat} (h : SimG w0 S0 M σ a w S μ β) {fn : Func} {rs : List VRes} (hc : compRes P fn.results.toList = some rs) {r : SV} {fz : List Nat} (hr : resM σ rs = some (r, fz)) :
    ∃ u, (results fn a.tmps).run P w = .ok u w ∧ SVRel w (Plus S β σ.objs fz) μ σ.objs r u := by
  have hlen := compRes_length hc
  have many : ∀ vs, resIVs σ rs = some (vs, fz) → rs.length ≠ 1 → r = .val (.tuple vs) → ∃ u, (results fn a.tmps).run P w = .ok u w ∧ SVRel w (Plus S β σ.objs fz) μ σ.objs r u := by
    rintro vs hv hne rfl
    obtain ⟨us, h1, h2⟩ := resIVs_sound (fz' := fz) h hc hv (fun _ x => x)
    have hrun := results_run h1
    have hl : us.length = vs.length := RepList.length h2
    have hvl : vs.length = rs.length := by
      have gen : ∀ (rs : List VRes) (vs : List IV) (fz : List Nat), resIVs σ rs = some (vs, fz) → vs.length = rs.length := by
        intro rs
        induction rs with
        | nil => intro vs fz hh; simp only [resIVs, Option.some.injEq, Prod.mk.injEq] at hh; obtain ⟨rfl, _⟩ := hh; rfl
        | cons x l ih =>
          intro vs fz hh
          simp only [resIVs] at hh
          split at hh
          · next v f vs' fs _ e2 =>
            simp only [Option.some.injEq, Prod.mk.injEq] at hh
            obtain ⟨rfl, _⟩ := hh
            simp [ih _ _ e2]
          · simp at hh
      exact gen rs vs fz hv
    rw [dif_neg (by simp; omega)] at hrun
    exact ⟨_, hrun, us.toArray, rfl, by simpa using h2⟩
  unfold resM at hr
  split at hr
  · simp only [Option.some.injEq, Prod.mk.injEq] at hr
    obtain ⟨rfl, rfl⟩ := hr
    exact many [] rfl (by simp) rfl
  · next t =>
    simp only [Option.some.injEq, Prod.mk.injEq] at hr
    obtain ⟨rfl, rfl⟩ := hr
    have hfr : fn.results.toList = [.tmp t] := by
      cases hfl : fn.results.toList with
      | nil => rw [hfl] at hlen; simp at hlen
      | cons rv l =>
        rw [hfl] at hlen
        have : l = [] := by simpa using hlen
        subst this
        rw [hfl] at hc
        cases rv with
        | tmp t' => simp [compRes] at hc; rw [hc]
        | cell ad ty =>
          exfalso
          simp only [compRes] at hc
          split at hc <;> simp at hc
    have hrun := results_run (P := P) (fn := fn) (tmps := a.tmps) (w := w) (us := [a.tmps.getD t Go.undef]) (by rw [hfr]; rfl)
    exact ⟨_, hrun, SVRel.mono (Keeps.refl _ _) (fun _ _ x => .inl x) _ _ (h.env t)⟩
  · next t g =>
    obtain ⟨rv, hfr⟩ : ∃ rv, fn.results.toList = [rv] := by
      cases hfl : fn.results.toList with
      | nil => rw [hfl] at hlen; simp at hlen
      | cons rv l =>
        rw [hfl] at hlen
        have : l = [] := by simpa using hlen
        subst this
        exact ⟨rv, rfl⟩
    rw [hfr] at hc
    cases rv with
    | tmp t' => simp [compRes] at hc
    | cell ad ty =>
      simp only [compRes] at hc
      split at hc
      · next g' rs' hg hrs =>
        simp only [Option.some.injEq, List.cons.injEq, VRes.cell.injEq] at hc
        obtain ⟨⟨rfl, rfl⟩, rfl⟩ := hc
        have fin : ∀ u, (do loadVar ty (← asAddr (a.tmps.getD ad Go.undef)) : Sem Value).run P w = .ok u w → (results fn a.tmps).run P w = .ok u w := by
          intro u hu
          refine results_run (P := P) (fn := fn) (tmps := a.tmps) (w := w) (us := [u]) ?_
          rw [hfr, List.mapM_cons]
          simp only [Sem.run_bind] at hu ⊢
          rw [hu]
          rfl
        split at hr
        · next id off heq =>
          have hrel := h.env ad
          rw [heq] at hrel
          split at hr
          · next cells hl =>
            obtain ⟨b, vs, e, fr, _, _, hv, hh, _, hcs⟩ := box_cells h hl hrel
            split at hr
            · next n =>
              split at hr
              · next hle =>
                simp only [Option.some.injEq, Prod.mk.injEq] at hr
                obtain ⟨rfl, rfl⟩ := hr
                have hr' := SVOnes.take n (SVOnes.drop off hcs)
                have hlen : ((vs.toList.drop off).take n).length = n := by
                  have := SVOnes.length hcs
                  rw [List.length_take, List.length_drop]; omega
                refine ⟨.agg ((vs.toList.drop off).take n).toArray, fin _ ?_, SVRel.mono (Keeps.refl _ _) (fun _ _ x => .inl x) _ _ (mkAgg_sound hr')⟩
                simp only [hv, asAddr, Sem.run_bind, Sem.run_pure, Result.andThen_ok]
                exact loadVar_agg hg hlen (fun j v hj => by
                  rw [List.getElem?_take] at hj
                  split at hj
                  · rw [List.getElem?_drop, Array.getElem?_toList] at hj
                    rw [cell_row hh]; exact hj
                  · simp at hj)
              · simp at hr
            · split at hr
              · next c hcc =>
                simp only [Option.some.injEq, Prod.mk.injEq] at hr
                obtain ⟨rfl, rfl⟩ := hr
                obtain ⟨v', h1, _, h2⟩ := SVOnes.get hcs hcc
                refine ⟨v', fin _ ?_, SVRel.mono (Keeps.refl _ _) (fun _ _ x => .inl x) _ _ h2⟩
                simp only [hv, asAddr, Sem.run_bind, Sem.run_pure, Result.andThen_ok]
                exact loadVar_one hg (by rw [cell_row hh]; rw [Array.getElem?_toList] at h1; exact h1)
              · simp at hr
          · simp at hr
        · simp at hr
      · simp at hc
  · next h0 h1 h2 =>
    split at hr
    · next vs fz' hv =>
      simp only [Option.some.injEq, Prod.mk.injEq] at hr
      obtain ⟨rfl, rfl⟩ := hr
      refine many vs hv ?_ rfl
      intro h1'
      obtain ⟨x, rfl⟩ := List.length_eq_one_iff.1 h1'
      cases x with
      | tmp t => exact h1 t rfl
      | cell t g => exact h2 t g rfl
    · simp at hr

theorem resTup_sound {w0 w : World} {S0 S : Stab} {M : Ctx} {σ : St} {a : Act} {μ : Nat → Value} {β : Nat → Option Nat} (h : SimG w0 S0 M σ a w S μ β) : ∀ {l : List ResultVar} {rs : List VRes} {cells : List SV}, compRes P l = some rs → resTup σ rs = some cells →
    ∃ us : List Value, (l.mapM (m := Sem) fun rv => match rv with | .tmp t => (pure (a.tmps.getD t Go.undef) : Sem Value) | .cell ad t => do loadVar t (← asAddr (a.tmps.getD ad Go.undef))).run P w = .ok us w ∧ SVList w S μ σ.objs cells us
  | [], rs, cells, hc, hr => by
    simp only [compRes, Option.some.injEq] at hc
    subst hc
    cases hr
    exact ⟨[], rfl, rfl⟩
  | .tmp t :: l, rs, cells, hc, hr => by
    simp only [compRes, Option.map_eq_some_iff] at hc
    obtain ⟨r, h1, rfl⟩ := hc
    simp only [resTup, Option.map_eq_some_iff] at hr
    obtain ⟨cs, h2, rfl⟩ := hr
    obtain ⟨us, h3, h4⟩ := resTup_sound h h1 h2
    refine ⟨a.tmps.getD t Go.undef :: us, ?_, _, _, rfl, h.env t, h4⟩
    rw [List.mapM_cons]
    simp only [Sem.run_bind, Sem.run_pure, Result.andThen_ok]
    rw [h3]
    rfl
  | .cell ad ty :: l, rs, cells, hc, hr => by
    simp only [compRes] at hc
    split at hc
    · next g r hg hrs =>
      obtain rfl := Option.some.inj hc
      cases g with
      | none => cases hr
      | some n =>
        simp only [resTup] at hr
        split at hr
        · next id off heq =>
          have hrel := h.env ad
          rw [heq] at hrel
          split at hr
          · next cells' hl =>
            split at hr
            · next hle =>
              simp only [Option.map_eq_some_iff] at hr
              obtain ⟨cs, h2, rfl⟩ := hr
              obtain ⟨us, h3, h4⟩ := resTup_sound h hrs h2
              obtain ⟨b, vs, e, fr, _, _, hv, hh, _, hcs⟩ := box_cells h hl hrel
              have hr' := SVOnes.take n (SVOnes.drop off hcs)
              have hlen : ((vs.toList.drop off).take n).length = n := by
                have := SVOnes.length hcs
                rw [List.length_take, List.length_drop]; omega
              refine ⟨.agg ((vs.toList.drop off).take n).toArray :: us, ?_, _, _, rfl, mkAgg_sound hr', h4⟩
              have hload : (do loadVar ty (← asAddr (a.tmps.getD ad Go.undef)) : Sem Value).run P w = .ok (.agg ((vs.toList.drop off).take n).toArray) w := by
                simp only [hv, asAddr, Sem.run_bind, Sem.run_pure, Result.andThen_ok]
                exact loadVar_agg hg hlen (fun j v hj => by
                  rw [List.getElem?_take] at hj
                  split at hj
                  · rw [List.getElem?_drop, Array.getElem?_toList] at hj
                    rw [cell_row hh]; exact hj
                  · simp at hj)
              rw [List.mapM_cons]
              simp only [Sem.run_bind] at hload ⊢
              rw [hload]
              simp only [Result.andThen_ok]
              rw [h3]
              rfl
            · cases hr
          · cases hr
        · cases hr
    · cases hc
theorem resC_sound {w0 w : World} {S0 S : Stab} {M : Ctx} {σ : St} {a : Act} {μ : Nat → Value} {β : Nat → Option Nat} (h : SimG w0 S0 M σ a w S μ β) {fn : Func} {rs : List VRes} (hc : compRes P fn.results.toList = some rs) {r0 r : SV} {fz : List Nat} (hr : resC σ rs r0 = some (r, fz)) :
    ∃ u, (results fn a.tmps).run P w = .ok u w ∧ SVRel w (Plus S β σ.objs fz) μ σ.objs r u := by
  cases r0
  case tup =>
    have hlen := compRes_length hc
    cases rs with
    | nil => cases hr
    | cons x rs =>
      cases rs with
      | nil => cases hr
      | cons y l =>
        have hr : (resTup σ (x :: y :: l)).map (fun l => (SV.tup l, ([] : List Nat))) = some (r, fz) := hr
        simp only [Option.map_eq_some_iff, Prod.mk.injEq] at hr
        obtain ⟨cells, h1, rfl, rfl⟩ := hr
        obtain ⟨us, h2, h3⟩ := resTup_sound h hc h1
        have hrun := results_run h2
        have h4 := SVList.length h3
        have h5 : ∀ {rs : List VRes} {cells : List SV}, resTup σ rs = some cells → cells.length = rs.length := by
          intro rs
          induction rs with
          | nil => intro cells hh; cases hh; rfl
          | cons x l ih =>
            intro cells hh
            cases x with
            | tmp t =>
              simp only [resTup, Option.map_eq_some_iff] at hh
              obtain ⟨cs, q1, rfl⟩ := hh
              simp [ih q1]
            | cell t g =>
              cases g with
              | none => cases hh
              | some n =>
                simp only [resTup] at hh
                split at hh
                · split at hh
                  · split at hh
                    · simp only [Option.map_eq_some_iff] at hh
                      obtain ⟨cs, q1, rfl⟩ := hh
                      simp [ih q1]
                    · cases hh
                  · cases hh
                · cases hh
        have h6 := h5 h1
        rw [dif_neg (by simp at h6 ⊢; omega)] at hrun
        exact ⟨_, hrun, us.toArray, rfl, SVList.mono (Keeps.refl _ _) (fun _ _ x => .inl x) _ _ (by simpa using h3)⟩
  all_goals exact resM_sound h hc hr

/-- THE CONTRACT, by the code. -/
theorem fnM_intro (hm : P.follows .mixedOrders = true) {k : FuncId} {v : VCode} {rs : List VRes} {n : Nat} (hok : FnOk P k v rs n) {gl : List (Nat × List IV)} {c : MC} (hn : c.args.length ≤ n) (hfar : farK n c.objs = true) (h : pw P v (fnPostM rs c) (stM gl c n)) : FnM gl P k c := by
  obtain ⟨fn, cd, hf, hname, hbody, hcomp, hbnd, hres, hnt⟩ := hok
  refine ⟨⟨fn, hf, hname⟩, fun w S μ β vs hS hgl hrep hobj hinj hunst => .inl ⟨⟨fn, hf, by rw [hbody]; rfl⟩, ?_⟩⟩
  subst hnt
  refine calls_of_wp hf hbody ?_
  have hl := SVList.length hrep
  -- what is held from outside: the handles on what came in
  have keep : ∀ (l : List (Nat × Ob)), ∃ ks : List (Nat × SV), (∀ p ∈ ks, ∃ o, look c.objs p.1 = some o ∧ p.2 = hdl p.1 o) ∧ ∀ i o, look l i = some o → look c.objs i = some o → (i, hdl i o) ∈ ks := by
    intro l
    induction l with
    | nil => exact ⟨[], by simp, fun i o h => by simp [look] at h⟩
    | cons p r ih =>
      obtain ⟨ks, k1, k2⟩ := ih
      cases hp : look c.objs p.1 with
      | none =>
        refine ⟨ks, k1, fun i o hi hc => ?_⟩
        obtain ⟨j, x⟩ := p
        simp only [look] at hi
        cases hj : j == i
        · rw [hj] at hi; exact k2 i o hi hc
        · rw [beq_iff_eq] at hj; subst hj; rw [hp] at hc; simp at hc
      | some y =>
        refine ⟨(p.1, hdl p.1 y) :: ks, ?_, fun i o hi hc => ?_⟩
        · intro q hq
          rcases List.mem_cons.1 hq with rfl | hq
          · exact ⟨y, hp, rfl⟩
          · exact k1 q hq
        · obtain ⟨j, x⟩ := p
          simp only [look] at hi
          cases hj : j == i
          · rw [hj] at hi; exact List.mem_cons_of_mem _ (k2 i o hi hc)
          · rw [beq_iff_eq] at hj; subst hj
            rw [hp] at hc
            simp only [Option.some.injEq] at hc
            subst hc
            exact List.mem_cons_self
  obtain ⟨ks, ks1, ks2⟩ := keep c.objs
  have start : SimG w S ⟨fun b => ∃ i x, look c.objs i = some x ∧ β i = some b, ks, μ, []⟩ (stM gl c fn.ntmps) { tmps := vs.toArray ++ Array.replicate (fn.ntmps - vs.toArray.size) Go.undef, defers := [] } w S μ β := by
    refine { defers := rfl, size := ?_, env := ?_, objs := hobj, inj := hinj, own := fun id o b h1 h2 => .inr ⟨id, o, h1, h2⟩, unst := hunst, stab := hS, ext := fun _ _ x => x, back := fun _ _ x => .inl x, kept := Kept.refl _ _, stay := fun _ _ _ => rfl, hist := ?_, far := ?_, glob := hgl }
    · simp [stM]; omega
    · intro k
      have := envS_get 0 hrep k
      have e : (vs.toArray ++ Array.replicate (fn.ntmps - vs.toArray.size) Go.undef).getD k Go.undef = (vs[k - 0]?).getD Go.undef := by
        rw [Nat.sub_zero]
        rcases Nat.lt_or_ge k vs.length with hk | hk
        · simp [Array.getD, hk, Array.getElem_append_left, Nat.lt_add_right]
        · rw [List.getElem?_eq_none hk, Option.getD_none]
          rw [Array.getD_eq_getD_getElem?, Array.getElem?_append_right (by simpa using hk), Array.getElem?_replicate]
          split <;> rfl
      show SVRel _ _ _ _ (getE (envS 0 c.args) k) _
      rw [e]
      exact this
    · intro p hp
      obtain ⟨o, h1, h2⟩ := ks1 p hp
      rw [h2]
      cases o with
      | box cells =>
        intro cells' hl'
        obtain ⟨b, vs, e, fr, _, q2, _⟩ := hobj _ _ h1
        exact ⟨b, q2, q2⟩
      | arr ver s rows =>
        intro cv s' rows' hl'
        rw [show look (stM gl c fn.ntmps).objs p.1 = look c.objs p.1 from rfl, h1] at hl'
        simp only [Option.some.injEq, Ob.arr.injEq] at hl'
        obtain ⟨rfl, _, _⟩ := hl'
        exact ⟨Nat.le_refl _, fun _ => rfl⟩
      | iter s p => intro s' p' hl'; rfl
      | tab ver s rows ln =>
        intro cv s' rows' ln' hl'
        rw [show look (stM gl c fn.ntmps).objs p.1 = look c.objs p.1 from rfl, h1] at hl'
        simp only [Option.some.injEq, Ob.tab.injEq] at hl'
        obtain ⟨rfl, _, _⟩ := hl'
        exact ⟨Nat.le_refl _, fun _ => rfl⟩
    · intro p hp d hd
      obtain ⟨o, h1, h2⟩ := ks1 p hp
      have hge := farK_get hfar _ _ h1
      have hd : d < fn.ntmps := hd
      rw [h2]
      cases o <;> simp [hdl, SV.noRef] <;> omega
  refine wp_mono (pw_sound hm v h cd hcomp hbnd w S _ _ w ⟨S, μ, β, start⟩) (fun e a w' hlift => ?_)
  have fin : ∀ σ, fnPostM rs c .ret σ → Sim w S ⟨fun b => ∃ i x, look c.objs i = some x ∧ β i = some b, ks, μ, []⟩ σ a w' → a.defers = [] ∧ ∃ u, (results fn a.tmps).run P w' = .ok u w' ∧ ∃ (v : Value) (S' : Stab) (μ' : Nat → Value) (β' : Nat → Option Nat), Ending.returned u = .returned v ∧ SVRel w' S' μ' c.objs' c.res v ∧
      (∀ id o, look c.objs' id = some o → ObRel w' S' μ' c.objs' (β' id) (μ' id) o) ∧
      (∀ id id' o o' b, look c.objs' id = some o → look c.objs' id' = some o' → β' id = some b → β' id' = some b → id = id') ∧
      (∀ id o b, look c.objs' id = some o → β' id = some b → w.heap.size ≤ b ∨ ∃ i x, look c.objs i = some x ∧ β i = some b) ∧
      (∀ id o b off, look c.objs' id = some o → β' id = some b → S' b off → id ∈ c.ro' ∧ ∀ ver s rows, o = .arr ver s rows → off < rows.length * s) ∧
      (∀ b o, S' b o → b < w'.heap.size) ∧ (∀ b o, S b o → S' b o) ∧ (∀ b o, S' b o → S b o ∨ w.heap.size ≤ b ∨ ∃ i x, look c.objs i = some x ∧ β i = some b) ∧
      Kept (fun b => ∃ i x, look c.objs i = some x ∧ β i = some b) w w' ∧
      (∀ id o, look c.objs id = some o → SVRel w' S' μ' c.objs' (hdl id o) (μ id)) ∧ (∀ b o, S b o → w'.cell? ⟨b, o, none⟩ = w.cell? ⟨b, o, none⟩) := by
    rintro σ ⟨σ', fz, hw, hob, hr, hro⟩ hs
    obtain ⟨S1, μ1, β1, hg⟩ := hw _ _ _ _ _ hs
    refine ⟨hg.defers, ?_⟩
    obtain ⟨u, hu1, hu2⟩ := resC_sound hg hres hr
    have hf := hg.freeze fz
    rw [hob] at hu2
    have hfo := hf.objs
    have hfi := hf.inj
    have hfw := hf.own
    have hfu := hf.unst
    have hfh := hf.hist
    simp only [hob] at hfo hfi hfw hfu hfh
    refine ⟨u, hu1, u, Plus S1 β1 c.objs' fz, μ1, β1, rfl, hu2, ?_, hfi, hfw, ?_, ?_, ?_, ?_, hg.kept, ?_, hg.stay⟩
    · intro id o hl; exact hfo id o hl
    · intro id o b off h1 h2 h3
      obtain ⟨q1, q2⟩ := hfu id o b off h1 h2 h3
      exact ⟨by rw [hro]; exact q1, q2⟩
    · intro b o hS; rw [← hob] at hS; exact hf.stab b o hS
    · intro b o hS; exact .inl (hg.ext b o hS)
    · intro b o hS; rw [← hob] at hS; exact hf.back b o hS
    · intro id o hl
      exact hfh _ (ks2 id o hl hl)
  cases e
  case normal => obtain ⟨σ, h1, _, h2⟩ := hlift; exact fin σ h1 h2
  case ret => obtain ⟨σ, h1, _, h2⟩ := hlift; exact fin σ h1 h2
  case panic => exact hlift.elim
  case outgrown => exact hlift.elim
  case exit => obtain ⟨σ, h1, _⟩ := hlift; exact h1.elim
  case goto => obtain ⟨σ, h1, _⟩ := hlift; exact h1.elim
end
end Go.Vs
set_option linter.unusedVariables false
set_option linter.unusedSimpArgs false
namespace Go.Vs

universe u
/-- What 'simp' is to leave alone: it does not look into an argument of a class. -/
class Hold (α : Sort u) where
  val : α

/-- A call, its rest held back. -/
def CallW (gl : List (Nat × List IV)) (P : Program) (g : FuncId) (ivs : List IV) [k : Hold (Res → Prop)] : Prop := ∃ r, FnR gl P g ivs r ∧ k.val r
theorem callW_imm {gl : List (Nat × List IV)} {P : Program} {g : FuncId} {ivs : List IV} {k : Res → Prop} {v : IV} (h : Fn gl P g ivs v) (hk : k (.imm v)) : @CallW gl P g ivs ⟨k⟩ := ⟨_, h, hk⟩
theorem callW_own {gl : List (Nat × List IV)} {P : Program} {g : FuncId} {ivs : List IV} {k : Res → Prop} {s : Nat} {rows : List (List IV)} (h : FnR gl P g ivs (.own s rows)) (hk : k (.own s rows)) : @CallW gl P g ivs ⟨k⟩ := ⟨_, h, hk⟩
def CallA (gl : List (Nat × List IV)) (P : Program) (a : Option (FuncId × List IV × List Nat)) [k : Hold (List Nat → Res → Prop)] : Prop := match a with
  | some (g, ivs, fz) => @CallW gl P g ivs ⟨k.val fz⟩
  | none => False
theorem callA_some {gl : List (Nat × List IV)} {P : Program} {g : FuncId} {ivs : List IV} {fz : List Nat} {k : List Nat → Res → Prop} : @CallA gl P (some (g, ivs, fz)) ⟨k⟩ = @CallW gl P g ivs ⟨fun r => k fz r⟩ := _root_.id rfl
/-- One operation, its rest held back. -/
def OpK (o : Option Upd) [k : Hold (Upd → Prop)] : Prop := match o with
  | some u => u.side ∧ k.val u
  | none => False
theorem opK_some {u : Upd} {k : Upd → Prop} : @OpK (some u) ⟨k⟩ = (u.side ∧ k u) := _root_.id rfl
def CallU (o : Option Upd) [k : Hold (Upd → Prop)] : Prop := match o with
  | some u => k.val u
  | none => False
theorem callU_some {u : Upd} {k : Upd → Prop} : @CallU (some u) ⟨k⟩ = k u := _root_.id rfl
theorem opW_call {P : Program} {σ : St} {dst : Option Nat} {k : Upd → Prop} {f : Nat} {args : List Opd} : opW P σ dst k (.call f args) = @CallA σ.gl P (callArgs σ (.val (.fn f [])) args) ⟨fun fz r => @CallU (callUpd dst fz r) ⟨k⟩⟩ := by
  simp only [opW, CallA, CallU, CallW]; rfl
theorem opW_callV {P : Program} {σ : St} {dst : Option Nat} {k : Upd → Prop} {f : Opd} {args : List Opd} : opW P σ dst k (.callV f args) = @CallA σ.gl P (callArgs σ (val σ f) args) ⟨fun fz r => @CallU (callUpd dst fz r) ⟨k⟩⟩ := by
  simp only [opW, CallA, CallU, CallW]; rfl
section
variable {P : Program} {σ : St} {dst : Option Nat} {k : Upd → Prop}
theorem opW_move {q0 : Opd} : opW P σ dst k (.move q0) = @OpK (ev σ dst (.move q0)) ⟨k⟩ := _root_.id rfl
theorem opW_pick {q0 : Opd} {q1 : Opd} {q2 : Opd} : opW P σ dst k (.pick q0 q1 q2) = @OpK (ev σ dst (.pick q0 q1 q2)) ⟨k⟩ := _root_.id rfl
theorem opW_alloc {q0 : List SV} : opW P σ dst k (.alloc q0) = @OpK (ev σ dst (.alloc q0)) ⟨k⟩ := _root_.id rfl
theorem opW_box {q0 : Opd} : opW P σ dst k (.box q0) = @OpK (ev σ dst (.box q0)) ⟨k⟩ := _root_.id rfl
theorem opW_build {q0 : List SV} {q1 : List (Nat × Nat × Opd)} : opW P σ dst k (.build q0 q1) = @OpK (ev σ dst (.build q0 q1)) ⟨k⟩ := _root_.id rfl
theorem opW_buildSlice {q0 : Nat} {q1 : Nat} {q2 : List SV} {q3 : List (Nat × Nat × Opd)} : opW P σ dst k (.buildSlice q0 q1 q2 q3) = @OpK (ev σ dst (.buildSlice q0 q1 q2 q3)) ⟨k⟩ := _root_.id rfl
theorem opW_load {q0 : Option Nat} {q1 : Opd} : opW P σ dst k (.load q0 q1) = @OpK (ev σ dst (.load q0 q1)) ⟨k⟩ := _root_.id rfl
theorem opW_store {q0 : Nat} {q1 : Opd} {q2 : Opd} : opW P σ dst k (.store q0 q1 q2) = @OpK (ev σ dst (.store q0 q1 q2)) ⟨k⟩ := _root_.id rfl
theorem opW_nilCheck {q0 : Opd} : opW P σ dst k (.nilCheck q0) = @OpK (ev σ dst (.nilCheck q0)) ⟨k⟩ := _root_.id rfl
theorem opW_bin {q0 : BinOp} {q1 : Opd} {q2 : Opd} : opW P σ dst k (.bin q0 q1 q2) = @OpK (ev σ dst (.bin q0 q1 q2)) ⟨k⟩ := _root_.id rfl
theorem opW_eqB {q0 : Bool} {q1 : Opd} {q2 : Opd} : opW P σ dst k (.eqB q0 q1 q2) = @OpK (ev σ dst (.eqB q0 q1 q2)) ⟨k⟩ := _root_.id rfl
theorem opW_eqN {q0 : Bool} {q1 : Opd} : opW P σ dst k (.eqN q0 q1) = @OpK (ev σ dst (.eqN q0 q1)) ⟨k⟩ := _root_.id rfl
theorem opW_eqP {q0 : Bool} {q1 : Opd} : opW P σ dst k (.eqP q0 q1) = @OpK (ev σ dst (.eqP q0 q1)) ⟨k⟩ := _root_.id rfl
theorem opW_eqS {q0 : Bool} {q1 : Opd} : opW P σ dst k (.eqS q0 q1) = @OpK (ev σ dst (.eqS q0 q1)) ⟨k⟩ := _root_.id rfl
theorem opW_eqA {q0 : Bool} {q1 : List LK} {q2 : Opd} {q3 : Opd} : opW P σ dst k (.eqA q0 q1 q2 q3) = @OpK (ev σ dst (.eqA q0 q1 q2 q3)) ⟨k⟩ := _root_.id rfl
theorem opW_un {q0 : UnOp} {q1 : Opd} : opW P σ dst k (.un q0 q1) = @OpK (ev σ dst (.un q0 q1)) ⟨k⟩ := _root_.id rfl
theorem opW_convI {q0 : IntKind} {q1 : Opd} : opW P σ dst k (.convI q0 q1) = @OpK (ev σ dst (.convI q0 q1)) ⟨k⟩ := _root_.id rfl
theorem opW_convS {q0 : Opd} : opW P σ dst k (.convS q0) = @OpK (ev σ dst (.convS q0)) ⟨k⟩ := _root_.id rfl
theorem opW_rangeS {q0 : Opd} : opW P σ dst k (.rangeS q0) = @OpK (ev σ dst (.rangeS q0)) ⟨k⟩ := _root_.id rfl
theorem opW_nextS {q0 : Opd} : opW P σ dst k (.nextS q0) = @OpK (ev σ dst (.nextS q0)) ⟨k⟩ := _root_.id rfl
theorem opW_convB {q0 : Opd} : opW P σ dst k (.convB q0) = @OpK (ev σ dst (.convB q0)) ⟨k⟩ := _root_.id rfl
theorem opW_appendS {q : Nat} {q0 : Nat} {q1 : Opd} {q2 : Opd} : opW P σ dst k (.appendS q q0 q1 q2) = @OpK (ev σ dst (.appendS q q0 q1 q2)) ⟨k⟩ := _root_.id rfl
theorem opW_eqL {q0 : Bool} {q1 : Opd} {q2 : Opd} : opW P σ dst k (.eqL q0 q1 q2) = @OpK (ev σ dst (.eqL q0 q1 q2)) ⟨k⟩ := _root_.id rfl
theorem opW_convR {q0 : Opd} : opW P σ dst k (.convR q0) = @OpK (ev σ dst (.convR q0)) ⟨k⟩ := _root_.id rfl
theorem opW_mkIface {q0 : Nat} {q1 : Opd} : opW P σ dst k (.mkIface q0 q1) = @OpK (ev σ dst (.mkIface q0 q1)) ⟨k⟩ := _root_.id rfl
theorem opW_mkFunc {q0 : Nat} {q1 : List Opd} : opW P σ dst k (.mkFunc q0 q1) = @OpK (ev σ dst (.mkFunc q0 q1)) ⟨k⟩ := _root_.id rfl
theorem opW_mkBound {q0 : Nat} {q1 : List Opd} : opW P σ dst k (.mkBound q0 q1) = @OpK (ev σ dst (.mkBound q0 q1)) ⟨k⟩ := _root_.id rfl
theorem opW_mkSlice {q0 : Nat} {q1 : Nat} {q2 : List SV} {q3 : Opd} {q4 : Opd} : opW P σ dst k (.mkSlice q0 q1 q2 q3 q4) = @OpK (ev σ dst (.mkSlice q0 q1 q2 q3 q4)) ⟨k⟩ := _root_.id rfl
theorem opW_subS {q0 : Opd} {q1 : Option Opd} {q2 : Option Opd} : opW P σ dst k (.subS q0 q1 q2) = @OpK (ev σ dst (.subS q0 q1 q2)) ⟨k⟩ := _root_.id rfl
theorem opW_subA {q0 q1 : Nat} {q2 : Opd} {q3 : Option Opd} {q4 : Option Opd} : opW P σ dst k (.subA q0 q1 q2 q3 q4) = @OpK (ev σ dst (.subA q0 q1 q2 q3 q4)) ⟨k⟩ := _root_.id rfl
theorem opW_subV {q0 : Nat} {q1 : Opd} {q2 : Option Opd} {q3 : Option Opd} {q4 : Option Opd} : opW P σ dst k (.subV q0 q1 q2 q3 q4) = @OpK (ev σ dst (.subV q0 q1 q2 q3 q4)) ⟨k⟩ := _root_.id rfl
theorem opW_fieldAddr {q0 : Nat} {q1 : Opd} : opW P σ dst k (.fieldAddr q0 q1) = @OpK (ev σ dst (.fieldAddr q0 q1)) ⟨k⟩ := _root_.id rfl
theorem opW_field {q0 : Nat} {q1 : Option Nat} {q2 : Opd} : opW P σ dst k (.field q0 q1 q2) = @OpK (ev σ dst (.field q0 q1 q2)) ⟨k⟩ := _root_.id rfl
theorem opW_indexAddr {q0 : Nat} {q1 : Opd} {q2 : Opd} : opW P σ dst k (.indexAddr q0 q1 q2) = @OpK (ev σ dst (.indexAddr q0 q1 q2)) ⟨k⟩ := _root_.id rfl
theorem opW_indexArr {q0 : Nat} {q1 : Nat} {q2 : Opd} {q3 : Opd} : opW P σ dst k (.indexArr q0 q1 q2 q3) = @OpK (ev σ dst (.indexArr q0 q1 q2 q3)) ⟨k⟩ := _root_.id rfl
theorem opW_indexS {q0 : Opd} {q1 : Opd} : opW P σ dst k (.indexS q0 q1) = @OpK (ev σ dst (.indexS q0 q1)) ⟨k⟩ := _root_.id rfl
theorem opW_indexA {q0 : Nat} {q1 : Nat} {q2 : Option Nat} {q3 : Opd} {q4 : Opd} : opW P σ dst k (.indexA q0 q1 q2 q3 q4) = @OpK (ev σ dst (.indexA q0 q1 q2 q3 q4)) ⟨k⟩ := _root_.id rfl
theorem opW_extract {q0 : Opd} {q1 : Nat} : opW P σ dst k (.extract q0 q1) = @OpK (ev σ dst (.extract q0 q1)) ⟨k⟩ := _root_.id rfl
theorem opW_lenS {q0 : Opd} : opW P σ dst k (.lenS q0) = @OpK (ev σ dst (.lenS q0)) ⟨k⟩ := _root_.id rfl
theorem opW_lenV {q0 : Opd} : opW P σ dst k (.lenV q0) = @OpK (ev σ dst (.lenV q0)) ⟨k⟩ := _root_.id rfl
theorem opW_allocB {q0 : Nat} : opW P σ dst k (.allocB q0) = @OpK (ev σ dst (.allocB q0)) ⟨k⟩ := _root_.id rfl
theorem opW_capV {q0 : Opd} : opW P σ dst k (.capV q0) = @OpK (ev σ dst (.capV q0)) ⟨k⟩ := _root_.id rfl
theorem opW_lenC {q0 : Nat} {q1 : Opd} : opW P σ dst k (.lenC q0 q1) = @OpK (ev σ dst (.lenC q0 q1)) ⟨k⟩ := _root_.id rfl
theorem opW_maxI {q0 : Opd} {q1 : Opd} : opW P σ dst k (.maxI q0 q1) = @OpK (ev σ dst (.maxI q0 q1)) ⟨k⟩ := _root_.id rfl
theorem opW_minI {q0 : Opd} {q1 : Opd} : opW P σ dst k (.minI q0 q1) = @OpK (ev σ dst (.minI q0 q1)) ⟨k⟩ := _root_.id rfl
theorem opW_clear {q0 : List SV} {q1 : Opd} : opW P σ dst k (.clear q0 q1) = @OpK (ev σ dst (.clear q0 q1)) ⟨k⟩ := _root_.id rfl
theorem opW_copy {q0 : Nat} {q1 : Opd} {q2 : Opd} : opW P σ dst k (.copy q0 q1 q2) = @OpK (ev σ dst (.copy q0 q1 q2)) ⟨k⟩ := _root_.id rfl
theorem opW_append {q : Nat} {q0 : Nat} {q1 : Nat} {q2 : Opd} {q3 : Opd} : opW P σ dst k (.append q q0 q1 q2 q3) = @OpK (ev σ dst (.append q q0 q1 q2 q3)) ⟨k⟩ := _root_.id rfl
end
/-- A slot's value in its place. -/
def setE : List (Nat × SV) → Nat → SV → List (Nat × SV)
  | [], _, _ => []
  | (j, v) :: r, k, x => bif j == k then (j, x) :: r else (j, v) :: setE r k x
theorem setE_self : ∀ {env : List (Nat × SV)} {k : Nat} {v : SV}, look env k = some v → setE env k v = env
  | [], _, _, h => rfl
  | (j, v) :: r, k, x, h => by
    simp only [look] at h
    simp only [setE]
    cases hj : j == k with
    | true => rw [hj] at h; simp only [cond_true, Option.some.injEq] at h ⊢; rw [h]
    | false => rw [hj] at h; simp only [cond_false] at h ⊢; rw [setE_self h]
def St.setB (σ : St) (g : Nat) (b : Bool) : St := { σ with env := setE σ.env g (.val (.bool b)) }
theorem St.setB_self {σ : St} {g : Nat} {b : Bool} (h : getE σ.env g = .val (.bool b)) : σ.setB g b = σ := by
  unfold St.setB
  rw [setE_self]
  unfold getE at h
  cases hl : look σ.env g with
  | none => rw [hl] at h; simp at h
  | some v => rw [hl] at h; simp only [Option.getD_some] at h; rw [h]
/-- The state is brought to its form ahead of what follows. -/
def NS (σ : St) [k : Hold (St → Prop)] : Prop := k.val σ
theorem nS_mk {a : List (Nat × SV)} {b : List (Nat × Ob)} {c : List Nat} {n : Nat} {gl : List (Nat × List IV)} {k : St → Prop} : @NS ⟨a, b, c, n, gl⟩ ⟨k⟩ = k ⟨a, b, c, n, gl⟩ := _root_.id rfl
/-- A branch, its arms held back. -/
def Br (c : Bool) [A : Hold Prop] [B : Hold Prop] : Prop := (c = true → A.val) ∧ (c = false → B.val)
theorem br_true {A B : Prop} : @Br true ⟨A⟩ ⟨B⟩ = A := by simp [Br]
theorem br_false {A B : Prop} : @Br false ⟨A⟩ ⟨B⟩ = B := by simp [Br]
theorem br_not {c : Bool} {A B : Prop} : @Br (!c) ⟨A⟩ ⟨B⟩ = @Br c ⟨B⟩ ⟨A⟩ := by cases c <;> simp [Br]
theorem br_decide {p : Prop} [Decidable p] {A B : Prop} : @Br (decide p) ⟨A⟩ ⟨B⟩ = ((p → A) ∧ (¬ p → B)) := by
  by_cases h : p <;> simp [Br, h]
theorem br_eqB {a b : Bool} {A B : Prop} : @Br (a == b) ⟨A⟩ ⟨B⟩ = @Br (decide (a = b)) ⟨A⟩ ⟨B⟩ := by cases a <;> cases b <;> rfl
theorem br_and {a b : Bool} {A B : Prop} : @Br (a && b) ⟨A⟩ ⟨B⟩ = @Br a ⟨@Br b ⟨A⟩ ⟨B⟩⟩ ⟨B⟩ := by cases a <;> cases b <;> simp [Br]
theorem br_or {a b : Bool} {A B : Prop} : @Br (a || b) ⟨A⟩ ⟨B⟩ = @Br a ⟨A⟩ ⟨@Br b ⟨A⟩ ⟨B⟩⟩ := by cases a <;> cases b <;> simp [Br]
theorem br_intro {c : Bool} {A B : Prop} (h1 : c = true → A) (h2 : c = false → B) : @Br c ⟨A⟩ ⟨B⟩ := ⟨h1, h2⟩
theorem brd {p : Prop} [Decidable p] {A B : Prop} (h1 : p → A) (h2 : ¬ p → B) : @Br (decide p) ⟨A⟩ ⟨B⟩ := by rw [br_decide]; exact ⟨h1, h2⟩
/-- By what a slot holds. -/
def BrS (v : SV) [A : Hold Prop] [B : Hold Prop] [C : Hold Prop] : Prop := match v with
  | .val (.bool c) => @Br c A B
  | .val (.tuple []) => C.val
  | _ => False
theorem brS_bool {c : Bool} {A B C : Prop} : @BrS (.val (.bool c)) ⟨A⟩ ⟨B⟩ ⟨C⟩ = @Br c ⟨A⟩ ⟨B⟩ := _root_.id rfl
theorem brS_skip {A B C : Prop} : @BrS (.val (.tuple [])) ⟨A⟩ ⟨B⟩ ⟨C⟩ = C := _root_.id rfl
/-- By a condition; one that is not known goes both ways. -/
def BrC (v : SV) [A : Hold Prop] [B : Hold Prop] : Prop := match v with
  | .val (.bool c) => @Br c A B
  | .anyB => A.val ∧ B.val
  | _ => False
theorem brC_bool {c : Bool} {A B : Prop} : @BrC (.val (.bool c)) ⟨A⟩ ⟨B⟩ = @Br c ⟨A⟩ ⟨B⟩ := _root_.id rfl
theorem brC_any {A B : Prop} : @BrC .anyB ⟨A⟩ ⟨B⟩ = (A ∧ B) := _root_.id rfl
/-- A loop, held back. -/
def TVW (P : Program) (σ : St) [v : Hold VCode] [Q : Hold (Exit → St → Prop)] : Prop := TV P v.val Q.val σ
theorem tvw {P : Program} {σ : St} {v : VCode} {Q : Exit → St → Prop} (h : TV P v Q σ) : @TVW P σ ⟨v⟩ ⟨Q⟩ := h

theorem runT_nil {P : Program} {K : St → Prop} {σ : St} : runT P K [] σ = K σ := _root_.id rfl
theorem runT_none {P : Program} {K : St → Prop} {σ : St} {d : Option Nat} {op : VOp} {r : List VOper} : runT P K (⟨d, op, none⟩ :: r) σ = opW P σ d (fun u => @NS (σ.apply d u) ⟨runT P K r⟩) op := _root_.id rfl
theorem runT_t {P : Program} {K : St → Prop} {σ : St} {d : Option Nat} {op : VOp} {g : Nat} {r : List VOper} : runT P K (⟨d, op, some (g, true)⟩ :: r) σ =
    @BrS (getE σ.env g) ⟨@NS (σ.setB g true) ⟨fun σ' => opW P σ' d (fun u => @NS (σ'.apply d u) ⟨runT P K r⟩) op⟩⟩ ⟨@NS ((σ.setB g false).apply d skipU) ⟨runT P K r⟩⟩ ⟨@NS (σ.apply d skipU) ⟨runT P K r⟩⟩ := by
  simp only [runT]
  cases hg : getE σ.env g with
  | val v =>
    cases v with
    | bool c => cases c <;> simp [gval, BrS, Br, NS, St.setB_self hg]
    | tuple vs => cases vs <;> simp [gval, BrS, NS]
    | _ => simp [gval, BrS]
  | _ => simp [gval, BrS]
theorem runT_f {P : Program} {K : St → Prop} {σ : St} {d : Option Nat} {op : VOp} {g : Nat} {r : List VOper} : runT P K (⟨d, op, some (g, false)⟩ :: r) σ =
    @BrS (getE σ.env g) ⟨@NS ((σ.setB g true).apply d skipU) ⟨runT P K r⟩⟩ ⟨@NS (σ.setB g false) ⟨fun σ' => opW P σ' d (fun u => @NS (σ'.apply d u) ⟨runT P K r⟩) op⟩⟩ ⟨@NS (σ.apply d skipU) ⟨runT P K r⟩⟩ := by
  simp only [runT]
  cases hg : getE σ.env g with
  | val v =>
    cases v with
    | bool c => cases c <;> simp [gval, BrS, Br, NS, St.setB_self hg]
    | tuple vs => cases vs <;> simp [gval, BrS, NS]
    | _ => simp [gval, BrS]
  | _ => simp [gval, BrS]
/-- A call that turns objects, its rest held back. -/
def MCallW (P : Program) (σ : St) (dst : Option Nat) (fv : SV) (args : List Opd) [K : Hold (St → Prop)] : Prop := MCall P σ dst fv args K.val
theorem callM {P : Program} {σ : St} {dst : Option Nat} {fv : SV} {args : List Opd} {K : St → Prop} {k : FuncId} {vals : List SV} {c : MC} (ρ : List (Nat × Nat)) (fz : List Nat) (h2 : FnM σ.gl P k c) (h1 : mVals σ fv args = some (k, vals)) (h3 : mOk σ ρ c = true) (h4 : mObjs σ.objs ρ c.objs)
    (h5 : mArgs σ.objs ρ vals c.args fz) (h6 : mFz ρ fz c.objs = true) (h7 : @NS (σ.mapply dst ρ c fz) ⟨K⟩) : @MCallW P σ dst fv args ⟨K⟩ := ⟨k, vals, c, ρ, fz, h1, h2, h3, h4, h5, h6, h7⟩
section
variable {P : Program} {σ : St} {dst : Option Nat} {K : St → Prop}
theorem opM_move {q0 : Opd} : opM P σ dst K (.move q0) = opW P σ dst (fun u => @NS (σ.apply dst u) ⟨K⟩) (.move q0) := _root_.id rfl
theorem opM_pick {q0 : Opd} {q1 : Opd} {q2 : Opd} : opM P σ dst K (.pick q0 q1 q2) = opW P σ dst (fun u => @NS (σ.apply dst u) ⟨K⟩) (.pick q0 q1 q2) := _root_.id rfl
theorem opM_alloc {q0 : List SV} : opM P σ dst K (.alloc q0) = opW P σ dst (fun u => @NS (σ.apply dst u) ⟨K⟩) (.alloc q0) := _root_.id rfl
theorem opM_box {q0 : Opd} : opM P σ dst K (.box q0) = opW P σ dst (fun u => @NS (σ.apply dst u) ⟨K⟩) (.box q0) := _root_.id rfl
theorem opM_build {q0 : List SV} {q1 : List (Nat × Nat × Opd)} : opM P σ dst K (.build q0 q1) = opW P σ dst (fun u => @NS (σ.apply dst u) ⟨K⟩) (.build q0 q1) := _root_.id rfl
theorem opM_buildSlice {q0 : Nat} {q1 : Nat} {q2 : List SV} {q3 : List (Nat × Nat × Opd)} : opM P σ dst K (.buildSlice q0 q1 q2 q3) = opW P σ dst (fun u => @NS (σ.apply dst u) ⟨K⟩) (.buildSlice q0 q1 q2 q3) := _root_.id rfl
theorem opM_load {q0 : Option Nat} {q1 : Opd} : opM P σ dst K (.load q0 q1) = opW P σ dst (fun u => @NS (σ.apply dst u) ⟨K⟩) (.load q0 q1) := _root_.id rfl
theorem opM_store {q0 : Nat} {q1 : Opd} {q2 : Opd} : opM P σ dst K (.store q0 q1 q2) = opW P σ dst (fun u => @NS (σ.apply dst u) ⟨K⟩) (.store q0 q1 q2) := _root_.id rfl
theorem opM_nilCheck {q0 : Opd} : opM P σ dst K (.nilCheck q0) = opW P σ dst (fun u => @NS (σ.apply dst u) ⟨K⟩) (.nilCheck q0) := _root_.id rfl
theorem opM_bin {q0 : BinOp} {q1 : Opd} {q2 : Opd} : opM P σ dst K (.bin q0 q1 q2) = opW P σ dst (fun u => @NS (σ.apply dst u) ⟨K⟩) (.bin q0 q1 q2) := _root_.id rfl
theorem opM_eqB {q0 : Bool} {q1 : Opd} {q2 : Opd} : opM P σ dst K (.eqB q0 q1 q2) = opW P σ dst (fun u => @NS (σ.apply dst u) ⟨K⟩) (.eqB q0 q1 q2) := _root_.id rfl
theorem opM_eqN {q0 : Bool} {q1 : Opd} : opM P σ dst K (.eqN q0 q1) = opW P σ dst (fun u => @NS (σ.apply dst u) ⟨K⟩) (.eqN q0 q1) := _root_.id rfl
theorem opM_eqP {q0 : Bool} {q1 : Opd} : opM P σ dst K (.eqP q0 q1) = opW P σ dst (fun u => @NS (σ.apply dst u) ⟨K⟩) (.eqP q0 q1) := _root_.id rfl
theorem opM_eqS {q0 : Bool} {q1 : Opd} : opM P σ dst K (.eqS q0 q1) = opW P σ dst (fun u => @NS (σ.apply dst u) ⟨K⟩) (.eqS q0 q1) := _root_.id rfl
theorem opM_eqA {q0 : Bool} {q1 : List LK} {q2 : Opd} {q3 : Opd} : opM P σ dst K (.eqA q0 q1 q2 q3) = opW P σ dst (fun u => @NS (σ.apply dst u) ⟨K⟩) (.eqA q0 q1 q2 q3) := _root_.id rfl
theorem opM_un {q0 : UnOp} {q1 : Opd} : opM P σ dst K (.un q0 q1) = opW P σ dst (fun u => @NS (σ.apply dst u) ⟨K⟩) (.un q0 q1) := _root_.id rfl
theorem opM_convI {q0 : IntKind} {q1 : Opd} : opM P σ dst K (.convI q0 q1) = opW P σ dst (fun u => @NS (σ.apply dst u) ⟨K⟩) (.convI q0 q1) := _root_.id rfl
theorem opM_convS {q0 : Opd} : opM P σ dst K (.convS q0) = opW P σ dst (fun u => @NS (σ.apply dst u) ⟨K⟩) (.convS q0) := _root_.id rfl
theorem opM_rangeS {q0 : Opd} : opM P σ dst K (.rangeS q0) = opW P σ dst (fun u => @NS (σ.apply dst u) ⟨K⟩) (.rangeS q0) := _root_.id rfl
theorem opM_nextS {q0 : Opd} : opM P σ dst K (.nextS q0) = opW P σ dst (fun u => @NS (σ.apply dst u) ⟨K⟩) (.nextS q0) := _root_.id rfl
theorem opM_convB {q0 : Opd} : opM P σ dst K (.convB q0) = opW P σ dst (fun u => @NS (σ.apply dst u) ⟨K⟩) (.convB q0) := _root_.id rfl
theorem opM_appendS {q : Nat} {q0 : Nat} {q1 : Opd} {q2 : Opd} : opM P σ dst K (.appendS q q0 q1 q2) = opW P σ dst (fun u => @NS (σ.apply dst u) ⟨K⟩) (.appendS q q0 q1 q2) := _root_.id rfl
theorem opM_eqL {q0 : Bool} {q1 : Opd} {q2 : Opd} : opM P σ dst K (.eqL q0 q1 q2) = opW P σ dst (fun u => @NS (σ.apply dst u) ⟨K⟩) (.eqL q0 q1 q2) := _root_.id rfl
theorem opM_convR {q0 : Opd} : opM P σ dst K (.convR q0) = opW P σ dst (fun u => @NS (σ.apply dst u) ⟨K⟩) (.convR q0) := _root_.id rfl
theorem opM_mkIface {q0 : Nat} {q1 : Opd} : opM P σ dst K (.mkIface q0 q1) = opW P σ dst (fun u => @NS (σ.apply dst u) ⟨K⟩) (.mkIface q0 q1) := _root_.id rfl
theorem opM_mkFunc {q0 : Nat} {q1 : List Opd} : opM P σ dst K (.mkFunc q0 q1) = opW P σ dst (fun u => @NS (σ.apply dst u) ⟨K⟩) (.mkFunc q0 q1) := _root_.id rfl
theorem opM_mkBound {q0 : Nat} {q1 : List Opd} : opM P σ dst K (.mkBound q0 q1) = opW P σ dst (fun u => @NS (σ.apply dst u) ⟨K⟩) (.mkBound q0 q1) := _root_.id rfl
theorem opM_mkSlice {q0 : Nat} {q1 : Nat} {q2 : List SV} {q3 : Opd} {q4 : Opd} : opM P σ dst K (.mkSlice q0 q1 q2 q3 q4) = opW P σ dst (fun u => @NS (σ.apply dst u) ⟨K⟩) (.mkSlice q0 q1 q2 q3 q4) := _root_.id rfl
theorem opM_subS {q0 : Opd} {q1 : Option Opd} {q2 : Option Opd} : opM P σ dst K (.subS q0 q1 q2) = opW P σ dst (fun u => @NS (σ.apply dst u) ⟨K⟩) (.subS q0 q1 q2) := _root_.id rfl
theorem opM_subA {q0 q1 : Nat} {q2 : Opd} {q3 : Option Opd} {q4 : Option Opd} : opM P σ dst K (.subA q0 q1 q2 q3 q4) = opW P σ dst (fun u => @NS (σ.apply dst u) ⟨K⟩) (.subA q0 q1 q2 q3 q4) := _root_.id rfl
theorem opM_subV {q0 : Nat} {q1 : Opd} {q2 : Option Opd} {q3 : Option Opd} {q4 : Option Opd} : opM P σ dst K (.subV q0 q1 q2 q3 q4) = opW P σ dst (fun u => @NS (σ.apply dst u) ⟨K⟩) (.subV q0 q1 q2 q3 q4) := _root_.id rfl
theorem opM_fieldAddr {q0 : Nat} {q1 : Opd} : opM P σ dst K (.fieldAddr q0 q1) = opW P σ dst (fun u => @NS (σ.apply dst u) ⟨K⟩) (.fieldAddr q0 q1) := _root_.id rfl
theorem opM_field {q0 : Nat} {q1 : Option Nat} {q2 : Opd} : opM P σ dst K (.field q0 q1 q2) = opW P σ dst (fun u => @NS (σ.apply dst u) ⟨K⟩) (.field q0 q1 q2) := _root_.id rfl
theorem opM_indexAddr {q0 : Nat} {q1 : Opd} {q2 : Opd} : opM P σ dst K (.indexAddr q0 q1 q2) = opW P σ dst (fun u => @NS (σ.apply dst u) ⟨K⟩) (.indexAddr q0 q1 q2) := _root_.id rfl
theorem opM_indexArr {q0 : Nat} {q1 : Nat} {q2 : Opd} {q3 : Opd} : opM P σ dst K (.indexArr q0 q1 q2 q3) = opW P σ dst (fun u => @NS (σ.apply dst u) ⟨K⟩) (.indexArr q0 q1 q2 q3) := _root_.id rfl
theorem opM_indexS {q0 : Opd} {q1 : Opd} : opM P σ dst K (.indexS q0 q1) = opW P σ dst (fun u => @NS (σ.apply dst u) ⟨K⟩) (.indexS q0 q1) := _root_.id rfl
theorem opM_indexA {q0 : Nat} {q1 : Nat} {q2 : Option Nat} {q3 : Opd} {q4 : Opd} : opM P σ dst K (.indexA q0 q1 q2 q3 q4) = opW P σ dst (fun u => @NS (σ.apply dst u) ⟨K⟩) (.indexA q0 q1 q2 q3 q4) := _root_.id rfl
theorem opM_extract {q0 : Opd} {q1 : Nat} : opM P σ dst K (.extract q0 q1) = opW P σ dst (fun u => @NS (σ.apply dst u) ⟨K⟩) (.extract q0 q1) := _root_.id rfl
theorem opM_lenS {q0 : Opd} : opM P σ dst K (.lenS q0) = opW P σ dst (fun u => @NS (σ.apply dst u) ⟨K⟩) (.lenS q0) := _root_.id rfl
theorem opM_lenV {q0 : Opd} : opM P σ dst K (.lenV q0) = opW P σ dst (fun u => @NS (σ.apply dst u) ⟨K⟩) (.lenV q0) := _root_.id rfl
theorem opM_allocB {q0 : Nat} : opM P σ dst K (.allocB q0) = opW P σ dst (fun u => @NS (σ.apply dst u) ⟨K⟩) (.allocB q0) := _root_.id rfl
theorem opM_capV {q0 : Opd} : opM P σ dst K (.capV q0) = opW P σ dst (fun u => @NS (σ.apply dst u) ⟨K⟩) (.capV q0) := _root_.id rfl
theorem opM_lenC {q0 : Nat} {q1 : Opd} : opM P σ dst K (.lenC q0 q1) = opW P σ dst (fun u => @NS (σ.apply dst u) ⟨K⟩) (.lenC q0 q1) := _root_.id rfl
theorem opM_maxI {q0 : Opd} {q1 : Opd} : opM P σ dst K (.maxI q0 q1) = opW P σ dst (fun u => @NS (σ.apply dst u) ⟨K⟩) (.maxI q0 q1) := _root_.id rfl
theorem opM_minI {q0 : Opd} {q1 : Opd} : opM P σ dst K (.minI q0 q1) = opW P σ dst (fun u => @NS (σ.apply dst u) ⟨K⟩) (.minI q0 q1) := _root_.id rfl
theorem opM_clear {q0 : List SV} {q1 : Opd} : opM P σ dst K (.clear q0 q1) = opW P σ dst (fun u => @NS (σ.apply dst u) ⟨K⟩) (.clear q0 q1) := _root_.id rfl
theorem opM_copy {q0 : Nat} {q1 : Opd} {q2 : Opd} : opM P σ dst K (.copy q0 q1 q2) = opW P σ dst (fun u => @NS (σ.apply dst u) ⟨K⟩) (.copy q0 q1 q2) := _root_.id rfl
theorem opM_append {q : Nat} {q0 : Nat} {q1 : Nat} {q2 : Opd} {q3 : Opd} : opM P σ dst K (.append q q0 q1 q2 q3) = opW P σ dst (fun u => @NS (σ.apply dst u) ⟨K⟩) (.append q q0 q1 q2 q3) := _root_.id rfl
theorem opM_call {f : Nat} {args : List Opd} : opM P σ dst K (.call f args) = opW P σ dst (fun u => @NS (σ.apply dst u) ⟨K⟩) (.call f args) := _root_.id rfl
theorem opM_callV {f : Opd} {args : List Opd} : opM P σ dst K (.callV f args) = opW P σ dst (fun u => @NS (σ.apply dst u) ⟨K⟩) (.callV f args) := _root_.id rfl
theorem opM_callM {f : Nat} {args : List Opd} : opM P σ dst K (.callM f args) = @MCallW P σ dst (.val (.fn f [])) args ⟨K⟩ := _root_.id rfl
theorem opM_callMV {f : Opd} {args : List Opd} : opM P σ dst K (.callMV f args) = @MCallW P σ dst (val σ f) args ⟨K⟩ := _root_.id rfl
end
theorem runM_nil {P : Program} {K : St → Prop} {σ : St} : runM P K [] σ = K σ := _root_.id rfl
theorem runM_none {P : Program} {K : St → Prop} {σ : St} {d : Option Nat} {op : VOp} {r : List VOper} : runM P K (⟨d, op, none⟩ :: r) σ = opM P σ d (runM P K r) op := _root_.id rfl
theorem runM_t {P : Program} {K : St → Prop} {σ : St} {d : Option Nat} {op : VOp} {g : Nat} {r : List VOper} : runM P K (⟨d, op, some (g, true)⟩ :: r) σ =
    @BrS (getE σ.env g) ⟨@NS (σ.setB g true) ⟨fun σ' => opM P σ' d (runM P K r) op⟩⟩ ⟨@NS ((σ.setB g false).apply d skipU) ⟨runM P K r⟩⟩ ⟨@NS (σ.apply d skipU) ⟨runM P K r⟩⟩ := by
  simp only [runM]
  cases hg : getE σ.env g with
  | val v =>
    cases v with
    | bool c => cases c <;> simp [gval, BrS, Br, NS, St.setB_self hg]
    | tuple vs => cases vs <;> simp [gval, BrS, NS]
    | _ => simp [gval, BrS]
  | _ => simp [gval, BrS]
theorem runM_f {P : Program} {K : St → Prop} {σ : St} {d : Option Nat} {op : VOp} {g : Nat} {r : List VOper} : runM P K (⟨d, op, some (g, false)⟩ :: r) σ =
    @BrS (getE σ.env g) ⟨@NS ((σ.setB g true).apply d skipU) ⟨runM P K r⟩⟩ ⟨@NS (σ.setB g false) ⟨fun σ' => opM P σ' d (runM P K r) op⟩⟩ ⟨@NS (σ.apply d skipU) ⟨runM P K r⟩⟩ := by
  simp only [runM]
  cases hg : getE σ.env g with
  | val v =>
    cases v with
    | bool c => cases c <;> simp [gval, BrS, Br, NS, St.setB_self hg]
    | tuple vs => cases vs <;> simp [gval, BrS, NS]
    | _ => simp [gval, BrS]
  | _ => simp [gval, BrS]
section
variable {P : Program} {a b : VCode} {Q : Exit → St → Prop} {σ : St}
theorem pw_cond {c : Opd} : pw P (.cond c a b) Q σ = @BrC (val σ c) ⟨pw P a Q σ⟩ ⟨pw P b Q σ⟩ := by
  simp only [pw]
  cases val σ c with
  | val v => cases v <;> rfl
  | _ => rfl
theorem pw_skip : pw P .skip Q σ = Q .normal σ := _root_.id rfl
theorem pw_text {ops : List VOper} {dead : List Nat} : pw P (.region ops .text dead) Q σ = runM P (fun σ' => @NS (σ'.drop dead) ⟨Q .normal⟩) ops σ := _root_.id rfl
theorem pw_calm {ops : List VOper} {dead : List Nat} : pw P (.region ops .calm dead) Q σ = runT P (fun σ' => @NS (σ'.drop dead) ⟨Q .normal⟩) ops σ := _root_.id rfl
theorem pw_drawn {ops : List VOper} {dead : List Nat} {ps ms : List (Nat × Nat)} : pw P (.region ops (.drawn ps ms) dead) Q σ = runD P (fun es σ' => chkD σ ps ms es = true ∧ @NS (σ'.drop dead) ⟨Q .normal⟩) ops σ [] := _root_.id rfl
theorem pw_seq : pw P (.seq a b) Q σ = pw P a (fun e σ' => match e with
    | .normal => pw P b Q σ'
    | e => Q e σ') σ := _root_.id rfl
theorem pw_block {id : Nat} : pw P (.block id a) Q σ = pw P a (fun e σ' => match e with
    | .exit i => if i = id then Q .normal σ' else Q (.exit i) σ'
    | e => Q e σ') σ := _root_.id rfl
theorem pw_loop : pw P (.loop a) Q σ = @TVW P σ ⟨.loop a⟩ ⟨Q⟩ := _root_.id rfl
theorem pw_exit {id : Nat} : pw P (.exit id) Q σ = Q (.exit id) σ := _root_.id rfl
theorem pw_scope : pw P (.scope a) Q σ = @TVW P σ ⟨.scope a⟩ ⟨Q⟩ := _root_.id rfl
theorem pw_label {l : Nat} : pw P (.label l) Q σ = Q .normal σ := _root_.id rfl
theorem pw_goto {l : Nat} : pw P (.goto l) Q σ = Q (.goto l) σ := _root_.id rfl
theorem pw_ret : pw P .ret Q σ = Q .ret σ := _root_.id rfl
end
/-- The same, with what was done so far. -/
def NSD (σ : St) (es : List Eff) [k : Hold (St → List Eff → Prop)] : Prop := k.val σ es
theorem nSD_mk {a : List (Nat × SV)} {b : List (Nat × Ob)} {c : List Nat} {n : Nat} {gl : List (Nat × List IV)} {es : List Eff} {k : St → List Eff → Prop} : @NSD ⟨a, b, c, n, gl⟩ es ⟨k⟩ = k ⟨a, b, c, n, gl⟩ es := _root_.id rfl
section
variable {P : Program} {K : List Eff → St → Prop} {σ : St} {d : Option Nat} {op : VOp} {g : Nat} {r : List VOper} {es : List Eff}
theorem runD_nil : runD P K [] σ es = K es σ := _root_.id rfl
theorem runD_none : runD P K (⟨d, op, none⟩ :: r) σ es = opW P σ d (fun u => @NSD (σ.apply d u) (es ++ [⟨idsOf σ op u, d, u⟩]) ⟨runD P K r⟩) op := _root_.id rfl
theorem runD_t : runD P K (⟨d, op, some (g, true)⟩ :: r) σ es =
    @BrS (getE σ.env g) ⟨@NS (σ.setB g true) ⟨fun σ' => opW P σ' d (fun u => @NSD (σ'.apply d u) (es ++ [⟨idsOf σ' op u, d, u⟩]) ⟨runD P K r⟩) op⟩⟩ ⟨@NSD ((σ.setB g false).apply d skipU) (es ++ [⟨[], d, skipU⟩]) ⟨runD P K r⟩⟩ ⟨@NSD (σ.apply d skipU) (es ++ [⟨[], d, skipU⟩]) ⟨runD P K r⟩⟩ := by
  simp only [runD]
  cases hg : getE σ.env g with
  | val v =>
    cases v with
    | bool c => cases c <;> simp [gval, BrS, Br, NS, NSD, St.setB_self hg]
    | tuple vs => cases vs <;> simp [gval, BrS, NSD]
    | _ => simp [gval, BrS]
  | _ => simp [gval, BrS]
theorem runD_f : runD P K (⟨d, op, some (g, false)⟩ :: r) σ es =
    @BrS (getE σ.env g) ⟨@NSD ((σ.setB g true).apply d skipU) (es ++ [⟨[], d, skipU⟩]) ⟨runD P K r⟩⟩ ⟨@NS (σ.setB g false) ⟨fun σ' => opW P σ' d (fun u => @NSD (σ'.apply d u) (es ++ [⟨idsOf σ' op u, d, u⟩]) ⟨runD P K r⟩) op⟩⟩ ⟨@NSD (σ.apply d skipU) (es ++ [⟨[], d, skipU⟩]) ⟨runD P K r⟩⟩ := by
  simp only [runD]
  cases hg : getE σ.env g with
  | val v =>
    cases v with
    | bool c => cases c <;> simp [gval, BrS, Br, NS, NSD, St.setB_self hg]
    | tuple vs => cases vs <;> simp [gval, BrS, NSD]
    | _ => simp [gval, BrS]
  | _ => simp [gval, BrS]
end
/-- At a loop's end: a state that the loop may begin with again, lower. -/
def LoopEnd {ι : Type} (σ : St) (k : Nat) [I : Hold (ι → St)] [A : Hold (ι → Prop)] [m : Hold (ι → Nat)] : Prop := ∃ j, A.val j ∧ m.val j < k ∧ Weak σ (I.val j)
theorem loopEnd {ι : Type} {σ : St} {k : Nat} {I : ι → St} {A : ι → Prop} {m : ι → Nat} (j : ι) (h1 : A j) (h2 : m j < k) (h3 : Weak σ (I j)) : @LoopEnd ι σ k ⟨I⟩ ⟨A⟩ ⟨m⟩ := ⟨j, h1, h2, h3⟩
theorem loopW {P : Program} (hm : P.follows .mixedOrders = true) {ι : Type} (I : ι → St) (A : ι → Prop) (m : ι → Nat) (i0 : ι) {b : VCode} {Q : Exit → St → Prop} {σ : St} (hA : A i0) (h0 : Weak σ (I i0)) (hn : ∀ i, (I i).n = σ.n)
    (round : ∀ i, A i → pw P b (fun e σ' => match e with
      | .normal => @LoopEnd ι σ' (m i) ⟨I⟩ ⟨A⟩ ⟨m⟩
      | e => Q e σ') (I i)) : @TVW P σ ⟨.loop b⟩ ⟨Q⟩ := tv_loop hm I A m i0 hA h0 hn round
/-- At a jump back. -/
def JumpEnd {ι : Type} (σ : St) (l' l : Nat) (k : Option Nat) [I : Hold (ι → St)] [A : Hold (ι → Prop)] [m : Hold (ι → Nat)] : Prop := l' = l ∧ ∃ j, A.val j ∧ (∀ k', k = some k' → m.val j < k') ∧ Weak σ (I.val j)
theorem jumpEnd {ι : Type} {σ : St} {l : Nat} {k : Nat} {I : ι → St} {A : ι → Prop} {m : ι → Nat} (j : ι) (h1 : A j) (h2 : m j < k) (h3 : Weak σ (I j)) : @JumpEnd ι σ l l (some k) ⟨I⟩ ⟨A⟩ ⟨m⟩ := ⟨rfl, j, h1, fun k' e => by simp only [Option.some.injEq] at e; subst e; exact h2, h3⟩
theorem jumpIn {ι : Type} {σ : St} {l : Nat} {I : ι → St} {A : ι → Prop} {m : ι → Nat} (j : ι) (h1 : A j) (h3 : Weak σ (I j)) : @JumpEnd ι σ l l none ⟨I⟩ ⟨A⟩ ⟨m⟩ := ⟨rfl, j, h1, fun k' e => by simp at e, h3⟩
theorem scopeW {P : Program} (hm : P.follows .mixedOrders = true) {ι : Type} (l : Nat) (I : ι → St) (A : ι → Prop) (m : ι → Nat) {b r : VCode} {Q : Exit → St → Prop} {σ : St} (hf : vfind b l = some r) (hn : ∀ i, (I i).n = σ.n)
    (first : pw P b (fun e σ' => match e with
      | .goto l' => @JumpEnd ι σ' l' l none ⟨I⟩ ⟨A⟩ ⟨m⟩
      | e => Q e σ') σ)
    (round : ∀ i, A i → pw P r (fun e σ' => match e with
      | .goto l' => @JumpEnd ι σ' l' l (some (m i)) ⟨I⟩ ⟨A⟩ ⟨m⟩
      | e => Q e σ') (I i)) : @TVW P σ ⟨.scope b⟩ ⟨Q⟩ :=
  tv_scope hm l I A m hf hn
    (pw_mono b (fun e σ' h => by
      cases e <;> first | exact h | (obtain ⟨h1, j, h2, _, h3⟩ := h; exact ⟨h1, j, h2, h3⟩)) first)
    (fun i hi => pw_mono r (fun e σ' h => by
      cases e <;> first | exact h | (obtain ⟨h1, j, h2, h4, h3⟩ := h; exact ⟨h1, j, h2, h4 _ rfl, h3⟩)) (round i hi))
theorem pw_drawnM {P : Program} {Q : Exit → St → Prop} {σ : St} {ops : List VOper} {dead : List Nat} {ps ms : List (Nat × Nat)} : pw P (.region ops (.drawnM ps ms) dead) Q σ = runDM P (fun σ' => @NS (σ'.drop dead) ⟨Q .normal⟩) σ ps ms ops σ [] := _root_.id rfl
theorem runDM_one {P : Program} {K : St → Prop} {σ0 σ : St} {ps ms : List (Nat × Nat)} {o : VOper} {es : List Eff} : runDM P K σ0 ps ms [o] σ es = (chkD σ0 (cutP es.length ps) (cutP es.length ms) es = true ∧ runM P K [o] σ) := _root_.id rfl
theorem runDM_none {P : Program} {K : St → Prop} {σ0 σ : St} {ps ms : List (Nat × Nat)} {d : Option Nat} {op : VOp} {o2 : VOper} {r : List VOper} {es : List Eff} : runDM P K σ0 ps ms (⟨d, op, none⟩ :: o2 :: r) σ es = opW P σ d (fun u => @NSD (σ.apply d u) (es ++ [⟨idsOf σ op u, d, u⟩]) ⟨runDM P K σ0 ps ms (o2 :: r)⟩) op := _root_.id rfl
attribute [simp ↓] runD_nil runD_none runD_t runD_f pw_drawnM runDM_one runDM_none
attribute [simp] nSD_mk idsOf VOp.acts VOp.opds refsL SV.refs callFz
attribute [simp ↓] opW_subA opM_subA opW_allocB opM_allocB opW_capV opM_capV runM_nil runM_none runM_t runM_f opW_rangeS opM_rangeS opW_nextS opM_nextS opW_convB opM_convB opW_appendS opM_appendS opW_eqL opM_eqL opW_convR opM_convR opW_clear opW_copy opM_move opM_pick opM_alloc opM_box opM_build opM_buildSlice opM_load opM_store opM_nilCheck opM_bin opM_eqB opM_eqN opM_eqP opM_eqS opM_eqA opM_un opM_convI opM_convS opM_mkIface opM_mkFunc opM_mkBound opM_mkSlice opM_subS opM_subV opM_fieldAddr opM_field opM_indexAddr opM_indexArr opM_indexS opM_indexA opM_extract opM_lenS opM_lenV opM_lenC opM_maxI opM_minI opM_clear opM_copy opM_append opM_call opM_callV opM_callM opM_callMV
/-- At a join. -/
def JoinEnd {ι : Type} (σ : St) [I : Hold (ι → St)] [A : Hold (ι → Prop)] : Prop := ∃ j, A.val j ∧ Weak σ (I.val j)
theorem joinEnd {ι : Type} {σ : St} {I : ι → St} {A : ι → Prop} (j : ι) (h1 : A j) (h3 : Weak σ (I j)) : @JoinEnd ι σ ⟨I⟩ ⟨A⟩ := ⟨j, h1, h3⟩
/-- Two pieces, the second held back till the first is done. -/
def CutW (P : Program) (σ : St) [v : Hold VCode] [Q : Hold (Exit → St → Prop)] : Prop := TV P v.val Q.val σ
theorem pw_cut {P : Program} {v : VCode} {Q : Exit → St → Prop} {σ : St} : pw P (.cut v) Q σ = @CutW P σ ⟨v⟩ ⟨Q⟩ := _root_.id rfl
theorem cutW {P : Program} (hm : P.follows .mixedOrders = true) {ι : Type} (I : ι → St) (A : ι → Prop) {x y : VCode} {Q : Exit → St → Prop} {σ : St} (hn : ∀ i, (I i).n = σ.n)
    (h1 : pw P x (fun e σ' => match e with
      | .normal => @JoinEnd ι σ' ⟨I⟩ ⟨A⟩
      | e => Q e σ') σ) (h2 : ∀ i, A i → pw P y Q (I i)) : @CutW P σ ⟨.seq x y⟩ ⟨Q⟩ := tv_cut hm I A hn h1 h2
theorem cut_not {P : Program} (hm : P.follows .mixedOrders = true) {v : VCode} {Q : Exit → St → Prop} {σ : St} (h : pw P v Q σ) : @CutW P σ ⟨v⟩ ⟨Q⟩ := pw_sound hm v h
attribute [simp ↓] pw_cut
theorem pw_refuse {P : Program} {Q : Exit → St → Prop} {σ : St} : pw P .refuse Q σ = False := _root_.id rfl
attribute [simp ↓] pw_refuse pw_skip pw_text pw_calm pw_drawn pw_seq pw_cond pw_block pw_loop pw_exit pw_scope pw_label pw_goto pw_ret runT_nil runT_none runT_t runT_f opW_call opW_callV opW_move opW_pick opW_alloc opW_box opW_build opW_buildSlice opW_load opW_store opW_nilCheck opW_bin opW_eqB opW_eqN opW_eqP opW_eqS opW_eqA opW_un opW_convI opW_convS opW_mkIface opW_mkFunc opW_mkBound opW_mkSlice opW_subS opW_subV opW_fieldAddr opW_field opW_indexAddr opW_indexArr opW_indexS opW_indexA opW_extract opW_lenS opW_lenV opW_lenC opW_maxI opW_minI opW_append
attribute [simp] br_true br_false br_not br_and br_or br_eqB brS_bool brC_bool brC_any brS_skip nS_mk opK_some callU_some callA_some
attribute [simp] setE St.setB
attribute [simp] lnFind lnCell lnCells linkable lnNew lnRows lnCut lnShift lnOf noRefLn eraseLn renLn inKeysLn clearLn
attribute [simp] evSub Vs.ren SV.ren renL Ob.ren renO mPut St.mapply mFlat SV.flat SV.flatL Ob.flat flatO stM envS
attribute [simp] subR zeroIV ev val getE look put putD putW eraseE eraseO St.apply St.drop dropKeys inDead okCell okCells cellsOf toIV0 toIVs0 toIV1 toIVs1 toIV toIVs IV.flat IV.flat.flats IV.one binI binS eqC eqL fillSV chunks repeatL rowsOf intOf bound evLoad evStore evPart flatRows callUpd callArgs mkAgg allVal fnPost resAll resIVs resIV resOwn env0 st0 SV.noRef SV.noRefs Ob.noRef noRefE noRefO SV.erase eraseL Ob.erase Op.bytesLess

/- Short words for printed code. -/
abbrev tm (k : Nat) : Opd := .tmp k
abbrev ci (n : Int) : Opd := .const (.val (.int .i64 n))
abbrev cu (n : Int) : Opd := .const (.val (.int .u8 n))
abbrev cb (b : Bool) : Opd := .const (.val (.bool b))
abbrev cs (s : List UInt8) : Opd := .const (.val (.str s))
abbrev o1 (d : Nat) (op : VOp) : VOper := ⟨some d, op, none⟩
abbrev o2 (d : Nat) (op : VOp) (g : Nat) (b : Bool) : VOper := ⟨some d, op, some (g, b)⟩
abbrev o3 (op : VOp) : VOper := ⟨none, op, none⟩
abbrev o4 (op : VOp) (g : Nat) (b : Bool) : VOper := ⟨none, op, some (g, b)⟩
abbrev rt (l : List VOper) (d : List Nat) : VCode := .region l .text d
/-- Pairs, told by rows of numbers from .. to. -/
def prs (l : List (Nat × List (Nat × Nat))) : List (Nat × Nat) := l.flatMap fun (k, rs) => rs.flatMap fun (a, b) => (List.range' a (b + 1 - a)).map fun j => (j, k)
end Go.Vs
set_option linter.unusedVariables false
set_option linter.unusedSimpArgs false
namespace Go.Vs
open Go.ChangeShapes Go.WideShapes Go.RowKit

/-- The shape of a type. -/
inductive Sc where
  | int (k : IntKind)
  | bool
  | str
  | struct (fs : List Sc)
  | slice (e : Sc)
  | arr (n : Nat) (e : Sc)

mutual
def Sc.size : Sc → Nat
  | .int _ => 1
  | .bool => 1
  | .str => 1
  | .struct fs => Sc.sizes fs
  | .slice _ => 1
  | .arr n e => n * e.size
def Sc.sizes : List Sc → Nat
  | [] => 0
  | s :: r => s.size + Sc.sizes r
end

mutual
def scOk (P : Program) : Sc → TypeId → Bool
  | .int k, t => match P.underlying t with
    | some (.int k') => k' == k
    | _ => false
  | .bool, t => match P.underlying t with
    | some .bool => true
    | _ => false
  | .str, t => match P.underlying t with
    | some .string => true
    | _ => false
  | .struct scs, t => match P.underlying t with
    | some (.struct fs) => fieldsOk P scs fs.toList 0 && P.cellsOf t == Sc.sizes scs
    | _ => false
  | .slice e, t => match P.underlying t with
    | some (.slice te) => scOk P e te && P.cellsOf te == e.size && decide (0 < e.size)
    | _ => false
  | .arr n e, t => match P.underlying t with
    | some (.array m te) => m == n && scOk P e te && P.cellsOf te == e.size && P.cellsOf t == n * e.size
    | _ => false
def fieldsOk (P : Program) : List Sc → List Field → Nat → Bool
  | [], [], _ => true
  | s :: r, f :: fs, off => f.offset == off && P.cellsOf f.type == s.size && scOk P s f.type && fieldsOk P r fs (off + s.size)
  | _, _, _ => false
end

mutual
/-- The cells of a value of the shape. -/
def Sh : Sc → List IV → Prop
  | .int k, l => ∃ n, l = [.int k n] ∧ (Lit.int k n).wf = true
  | .bool, l => ∃ b, l = [.bool b]
  | .str, l => ∃ s, l = [.str s] ∧ s.length ≤ maxLen
  | .struct scs, l => Shs scs l
  | .slice e, l => ∃ rows, l = [.slice rows] ∧ rows.length ≤ maxLen ∧ ∀ row ∈ rows, Sh e row
  | .arr n e, l => ∃ parts : List (List IV), l = parts.flatten ∧ parts.length = n ∧ ∀ p ∈ parts, Sh e p
def Shs : List Sc → List IV → Prop
  | [], l => l = []
  | s :: r, l => ∃ a b, l = a ++ b ∧ Sh s a ∧ Shs r b
end

def Old (w : World) : Stab := fun b _ => b < w.heap.size

theorem cell_old {w : World} {a : Addr} {v : Value} (h : w.cell? a = some v) : a.block < w.heap.size ∧ a.spot = none := by
  unfold World.cell? at h
  split at h
  · next c t fr hh =>
    split at h
    · simp at h
    · next hs =>
      refine ⟨?_, by simpa using hs⟩
      exact (Array.getElem?_eq_some_iff.1 hh).1
  · simp at h

theorem repCells_of {w : World} : ∀ {ivs : List IV} {cs : List Value} {blk off : Nat}, RepOnes w (Old w) ivs cs → (∀ j, j < cs.length → w.cell? ⟨blk, off + j, none⟩ = cs[j]?) → RepCells w (Old w) ivs blk off
  | [], _, _, _, _, _ => by simp [RepCells]
  | x :: r, _, blk, off, ⟨v, vs, h1, h2, h3, h4⟩, hc => by
    subst h1
    have c0 := hc 0 (by simp)
    simp only [Nat.add_zero, List.getElem?_cons_zero] at c0
    refine ⟨(cell_old c0).1, h2, ⟨v, c0, h3⟩, repCells_of h4 (fun j hj => ?_)⟩
    have := hc (j + 1) (by simp; omega)
    rw [List.getElem?_cons_succ] at this
    rw [← this]
    congr 2
    omega

theorem cells_get {w : World} {base : Nat} {a : Addr} {n : Nat} {cs : List Value} (h : w.cells? base a n = some cs) : cs.length = n ∧ ∀ j, j < n → w.cell? (a.add j) = cs[j]? := by
  unfold World.cells? at h
  split at h
  · refine ⟨by simpa using mapM_some_length h, fun j hj => ?_⟩
    exact mapM_some_get h j j (by simp [hj])
  · simp at h

theorem rows_of {w : World} {e : Sc} {s blk off : Nat} : ∀ (n start : Nat), (∀ i, i < n → ∃ row, Sh e row ∧ row.length = s ∧ RepCells w (Old w) row blk (off + (start + i) * s)) →
    ∃ rows, rows.length = n ∧ (∀ row ∈ rows, Sh e row) ∧ RepRows w (Old w) rows s blk (off + start * s)
  | 0, start, _ => ⟨[], rfl, by simp, by simp [RepRows]⟩
  | n + 1, start, h => by
    obtain ⟨row, h1, h2, h3⟩ := h 0 (by omega)
    obtain ⟨rows, k1, k2, k3⟩ := rows_of n (start + 1) (fun i hi => by
      obtain ⟨row, q1, q2, q3⟩ := h (i + 1) (by omega)
      refine ⟨row, q1, q2, ?_⟩
      rw [show start + 1 + i = start + (i + 1) by omega]
      exact q3)
    refine ⟨row :: rows, by simp [k1], ?_, ?_⟩
    · intro r hr
      rcases List.mem_cons.1 hr with rfl | hr
      · exact h1
      · exact k2 r hr
    · refine ⟨h2, by simpa using h3, ?_⟩
      rw [Nat.add_mul, Nat.one_mul, ← Nat.add_assoc] at k3
      exact k3


section
variable {H : Type} {enc : TypeId × Value → H} {P : Program} {w : World} {base : Nat} {spare : Nat → Bool} {held : Bool}

theorem add_spot {a : Addr} (h : a.spot = none) (i : Nat) : a.add i = ⟨a.block, a.off + i, none⟩ := by
  obtain ⟨b, o, s⟩ := a
  subst h
  unfold Addr.add
  split
  · next hi => simp [hi]
  · rfl

mutual
/-- WHAT IS READ AS DATA IS READ AS AN IMMUTABLE VALUE. -/
theorem trod_rep : ∀ (sc : Sc) (fuel : Nat) (t : TypeId) (cs : List Value) (x : DataW H × List MemPlace), scOk P sc t = true → DataW.trod enc P w base spare held fuel t cs = some x → ∃ ivs, Sh sc ivs ∧ RepOnes w (Old w) ivs cs ∧ ivs.length = sc.size
  | .int k, fuel, t, cs, x, hs, h => by
    simp only [scOk] at hs
    split at hs
    · next k' ht =>
      rw [beq_iff_eq] at hs; subst hs
      obtain ⟨n, rfl, _, hw⟩ := DataW.trod_int ht h
      exact ⟨[.int _ n], ⟨n, rfl, hw⟩, ⟨_, _, rfl, rfl, rfl, rfl⟩, rfl⟩
    · simp at hs
  | .bool, fuel, t, cs, x, hs, h => by
    simp only [scOk] at hs
    split at hs
    · next ht =>
      obtain ⟨n, rfl, _⟩ := DataW.trod_bool ht h
      exact ⟨[.bool n], ⟨n, rfl⟩, ⟨_, _, rfl, rfl, rfl, rfl⟩, rfl⟩
    · simp at hs
  | .str, fuel, t, cs, x, hs, h => by
    simp only [scOk] at hs
    split at hs
    · next ht =>
      obtain ⟨n, rfl, _, hl⟩ := DataW.trod_string ht h
      exact ⟨[.str n.data.toList], ⟨_, rfl, by simpa using hl⟩, ⟨_, _, rfl, rfl, rfl, rfl⟩, rfl⟩
    · simp at hs
  | .struct scs, fuel, t, cs, x, hs, h => by
    simp only [scOk] at hs
    split at hs
    · next fs ht =>
      simp only [Bool.and_eq_true, beq_iff_eq] at hs
      obtain ⟨xs, n, _, _, hl, hx, hf⟩ := DataW.trod_struct ht h
      obtain ⟨ivs, h1, h2, h3⟩ := fields_rep scs n fs.toList 0 cs (by omega) hs.1 (fun i f hi => by
        have hi' : fs[i]? = some f := by simpa using hi
        have := hf i f hi'
        have hlt : i < fs.size := (Array.getElem?_eq_some_iff.1 hi').1
        rw [List.getElem?_eq_getElem (by omega)] at this
        exact ⟨_, this⟩)
      rw [List.drop_zero, List.take_of_length_le (by omega)] at h2
      exact ⟨ivs, h1, h2, h3⟩
    · simp at hs
  | .slice e, fuel, t, cs, x, hs, h => by
    simp only [scOk] at hs
    split at hs
    · next te ht =>
      simp only [Bool.and_eq_true, beq_iff_eq, decide_eq_true_eq] at hs
      obtain ⟨⟨hs1, hs2⟩, hs3⟩ := hs
      rcases DataW.trod_slice ht h with ⟨rfl, _⟩ | ⟨a, len, cap, elems, rest, n, _, rfl, _, _, hlc, hcap, hel, hE, _, _⟩
      · exact ⟨[.slice []], ⟨[], rfl, by simp, by simp⟩, ⟨_, _, rfl, rfl, ⟨none, 0, rfl, by simp, by simp⟩, rfl⟩, rfl⟩
      · have hspot : 0 < len → a.spot = none := by
          intro hpos
          have hi' := hE 0 hpos
          rw [List.getElem?_eq_getElem (by omega)] at hi'
          simp only [Option.bind_eq_some_iff] at hi'
          obtain ⟨cs', hc1, _⟩ := hi'
          have hg := cells_get hc1
          have h0 := hg.2 0 (by omega)
          cases hc : cs'[0]? with
          | none => rw [List.getElem?_eq_none_iff] at hc; omega
          | some v =>
            rw [hc] at h0
            simpa [Addr.add] using (cell_old h0).2
        have hrow : ∀ i, i < len → ∃ row, Sh e row ∧ row.length = e.size ∧ RepCells w (Old w) row a.block (a.off + (0 + i) * e.size) := by
          intro i hi
          have hi' := hE i hi
          rw [List.getElem?_eq_getElem (by omega)] at hi'
          simp only [Option.bind_eq_some_iff] at hi'
          obtain ⟨cs', hc1, hc2⟩ := hi'
          obtain ⟨ivs, q1, q2, q3⟩ := trod_rep e n te cs' _ hs1 hc2
          have hg := cells_get hc1
          rw [hs2] at hg
          refine ⟨ivs, q1, q3, ?_⟩
          refine repCells_of q2 (fun j hj => ?_)
          rw [← hg.2 j (by omega), add_spot (hspot (by omega)), add_spot rfl]
          simp
        obtain ⟨rows, k1, k2, k3⟩ := rows_of (e := e) (s := e.size) (blk := a.block) (off := a.off) len 0 (fun i hi => by
          obtain ⟨row, q1, q2, q3⟩ := hrow i hi
          exact ⟨row, q1, q2, q3⟩)
        refine ⟨[.slice rows], ⟨rows, rfl, by omega, k2⟩, ⟨_, _, rfl, rfl, ⟨some a, cap, by rw [k1], by omega, fun hne => ?_⟩, rfl⟩, rfl⟩
        have hpos : 0 < len := by
          rw [← k1]; exact List.length_pos_iff.2 hne
        refine ⟨a.block, a.off, e.size, ?_, by simpa using k3⟩
        have hsp := hspot hpos
        obtain ⟨ab, ao, asp⟩ := a
        simp only at hsp
        rw [hsp]
    · simp at hs
  | .arr n e, fuel, t, cs, x, hs, h => by
    simp only [scOk] at hs
    split at hs
    · next m te ht =>
      simp only [Bool.and_eq_true, beq_iff_eq] at hs
      obtain ⟨⟨⟨rfl, hs1⟩, hs2⟩, hs3⟩ := hs
      obtain ⟨xs, f, _, _, hl, hx, hf⟩ := DataW.trod_array ht h
      have gen : ∀ k, k ≤ m → ∃ parts : List (List IV), parts.length = k ∧ (∀ p ∈ parts, Sh e p) ∧ RepOnes w (Old w) parts.flatten (cs.take (k * e.size)) ∧ parts.flatten.length = k * e.size := by
        intro k
        induction k with
        | zero => intro _; exact ⟨[], rfl, by simp, by simp [RepOnes], by simp⟩
        | succ k ih =>
          intro hk
          obtain ⟨parts, p1, p2, p3, p4⟩ := ih (by omega)
          have hk' := hf k (by omega)
          rw [List.getElem?_eq_getElem (by omega), hs2] at hk'
          obtain ⟨ivs, q1, q2, q3⟩ := trod_rep e f te _ _ hs1 hk'
          refine ⟨parts ++ [ivs], by simp [p1], ?_, ?_, ?_⟩
          · intro p hp
            rcases List.mem_append.1 hp with hp | hp
            · exact p2 p hp
            · rw [List.mem_singleton.1 hp]; exact q1
          · have := RepOnes.append p3 q2
            rw [← List.take_add] at this
            simpa [Nat.add_mul] using this
          · simp [p4, q3, Nat.add_mul]
      obtain ⟨parts, p1, p2, p3, p4⟩ := gen m (Nat.le_refl _)
      rw [List.take_of_length_le (by omega)] at p3
      exact ⟨parts.flatten, ⟨parts, rfl, p1, p2⟩, p3, p4⟩
    · simp at hs
theorem fields_rep : ∀ (scs : List Sc) (fuel : Nat) (fs : List Field) (off : Nat) (cs : List Value), off + Sc.sizes scs ≤ cs.length → fieldsOk P scs fs off = true →
    (∀ (i : Nat) (f : Field), fs[i]? = some f → ∃ y, DataW.trod enc P w base spare held fuel f.type ((cs.drop f.offset).take (P.cellsOf f.type)) = some y) →
    ∃ ivs, Shs scs ivs ∧ RepOnes w (Old w) ivs ((cs.drop off).take (Sc.sizes scs)) ∧ ivs.length = Sc.sizes scs
  | [], _, [], off, cs, _, _, _ => ⟨[], rfl, by simp [RepOnes, Sc.sizes], rfl⟩
  | [], _, _ :: _, _, _, _, h, _ => by simp [fieldsOk] at h
  | _ :: _, _, [], _, _, _, h, _ => by simp [fieldsOk] at h
  | s :: r, fuel, f :: fs, off, cs, hle, h, hf => by
    simp only [fieldsOk, Bool.and_eq_true, beq_iff_eq] at h
    obtain ⟨⟨⟨h1, h2⟩, h3⟩, h4⟩ := h
    simp only [Sc.sizes] at hle ⊢
    obtain ⟨y, hy⟩ := hf 0 f rfl
    rw [h1, h2] at hy
    obtain ⟨a, a1, a2, a3⟩ := trod_rep s fuel _ _ _ h3 hy
    obtain ⟨b, b1, b2, b3⟩ := fields_rep r fuel fs (off + s.size) cs (by omega) h4 (fun i g hg => hf (i + 1) g hg)
    refine ⟨a ++ b, ⟨a, b, rfl, a1, b1⟩, ?_, by simp [a3, b3]⟩
    have := RepOnes.append a2 b2
    rw [← List.drop_drop, ← List.take_add] at this
    exact this
end
end
end Go.Vs
set_option linter.unusedVariables false
set_option linter.unusedSimpArgs false
namespace Go.Vs
open Go.ChangeShapes Go.WideShapes Go.RowKit

/-- An argument of the shape. -/
def Arg : Sc → IV → Prop
  | .struct scs, v => ∃ l, v = .agg l ∧ Shs scs l
  | .arr n e, v => ∃ l, v = .agg l ∧ Sh (.arr n e) l
  | sc, v => Sh sc [v]
def Args : List Sc → List IV → Prop
  | [], l => l = []
  | s :: r, l => ∃ v b, l = v :: b ∧ Arg s v ∧ Args r b
def scsOk (P : Program) : List Sc → List TypeId → Bool
  | [], [] => true
  | s :: r, t :: ts => scOk P s t && scsOk P r ts
  | _, _ => false

section
variable {H : Type} {enc : TypeId × Value → H} {P : Program} {w : World} {base : Nat} {spare : Nat → Bool} {held : Bool}

theorem one_rep {S : Stab} {iv : IV} {v : Value} (h : RepOnes w S [iv] [v]) : Rep w S iv v := by
  obtain ⟨u, us, h1, _, h2, _⟩ := h
  simp only [List.cons.injEq] at h1
  rw [h1.1]; exact h2

theorem arg_rep {sc : Sc} {t : TypeId} {v : Value} {d : DataW H} {ps : List MemPlace} {b0 : Nat} (hs : scOk P sc t = true) (hd : DataW.Trod enc P w base spare held t v d ps) (hok : Value.okWide P w .any b0 t v) : ∃ iv, Arg sc iv ∧ Rep w (Old w) iv v := by
  obtain ⟨fuel, hf⟩ := hd
  obtain ⟨ivs, h1, h2, h3⟩ := trod_rep sc fuel t _ _ hs hf
  have one : ∀ {u : Value}, u.cells.toList = [u] → v = u → sc.size = 1 → ∃ iv, ivs = [iv] ∧ Rep w (Old w) iv v := by
    intro u hu hv hsz
    rw [hsz] at h3
    obtain ⟨iv, rfl⟩ := List.length_eq_one_iff.1 h3
    subst hv
    rw [hu] at h2
    exact ⟨iv, rfl, one_rep h2⟩
  cases sc with
  | int k =>
    simp only [scOk] at hs
    split at hs
    · next k' ht =>
      obtain ⟨n, rfl⟩ := okWide_int ht hok
      obtain ⟨iv, rfl, q⟩ := one rfl rfl rfl
      exact ⟨iv, h1, q⟩
    · simp at hs
  | bool =>
    simp only [scOk] at hs
    split at hs
    · next ht =>
      obtain ⟨n, rfl⟩ := okWide_bool ht hok
      obtain ⟨iv, rfl, q⟩ := one rfl rfl rfl
      exact ⟨iv, h1, q⟩
    · simp at hs
  | str =>
    simp only [scOk] at hs
    split at hs
    · next ht =>
      obtain ⟨n, rfl⟩ := okWide_string ht hok
      obtain ⟨iv, rfl, q⟩ := one rfl rfl rfl
      exact ⟨iv, h1, q⟩
    · simp at hs
  | slice e =>
    simp only [scOk] at hs
    split at hs
    · next te ht =>
      obtain ⟨a, len, cap, rfl⟩ := okWide_slice ht hok
      obtain ⟨iv, rfl, q⟩ := one rfl rfl rfl
      exact ⟨iv, h1, q⟩
    · simp at hs
  | struct scs =>
    simp only [scOk] at hs
    split at hs
    · next fs ht =>
      simp only [Value.okWide, ht] at hok
      obtain ⟨cs, rfl, _, _⟩ := hok
      exact ⟨.agg ivs, ⟨ivs, rfl, h1⟩, cs, rfl, h2⟩
    · simp at hs
  | arr n e =>
    simp only [scOk] at hs
    split at hs
    · next m te ht =>
      simp only [Value.okWide, ht] at hok
      obtain ⟨cs, rfl, _, _⟩ := hok
      exact ⟨.agg ivs, ⟨ivs, rfl, h1⟩, cs, rfl, h2⟩
    · simp at hs

theorem args_rep : ∀ {scs : List Sc} {ts : List TypeId} {vs : List Value} {ds : List (DataW H)} {ps : List MemPlace} {b0 : Nat}, scsOk P scs ts = true → DataW.TrodAll enc P w base spare held ts vs ds ps →
    (∀ (j : Nat) t v, ts[j]? = some t → vs[j]? = some v → Value.okWide P w .any b0 t v) → ∃ ivs, Args scs ivs ∧ RepList w (Old w) ivs vs ∧ ds.length = ts.length
  | [], [], [], [], _, _, _, _, _ => ⟨[], rfl, rfl, rfl⟩
  | [], _ :: _, _, _, _, _, h, _, _ => by simp [scsOk] at h
  | _ :: _, [], _, _, _, _, h, _, _ => by simp [scsOk] at h
  | s :: r, t :: ts, v :: vs, d :: ds, ps, b0, h, ⟨p, q, h1, h2, _⟩, hok => by
    simp only [scsOk, Bool.and_eq_true] at h
    obtain ⟨iv, a1, a2⟩ := arg_rep h.1 h1 (hok 0 t v rfl rfl)
    obtain ⟨ivs, b1, b2, b3⟩ := args_rep h.2 h2 (fun j t' v' ht hv => hok (j + 1) t' v' ht hv)
    exact ⟨iv :: ivs, ⟨iv, ivs, rfl, a1, b1⟩, ⟨v, vs, rfl, a2, b2⟩, by simp [b3]⟩
  | [], [], [], _ :: _, _, _, _, h, _ => h.elim
  | [], [], _ :: _, _, _, _, _, h, _ => h.elim
  | _ :: _, _ :: _, [], _, _, _, _, h, _ => h.elim
  | _ :: _, _ :: _, _ :: _, [], _, _, _, h, _ => h.elim

theorem trodAll_stays (hl : laidOutB P = true) {W W' : World} {sp' : Nat → Bool} : ∀ {ts : List TypeId} {vs : List Value} {ds : List (DataW H)} {ps : List MemPlace}, ts.all (fun t => P.readableRec t && decide (t < P.types.size)) = true →
    DataW.TrodAll enc P W base (fun _ => true) true ts vs ds ps → (∀ p ∈ ps, W.sameAt W' p) → (∀ p ∈ ps, sp' p.block = true) → DataW.TrodAll enc P W' base sp' true ts vs ds ps
  | [], [], [], _, _, h, _, _ => h
  | t :: ts, v :: vs, d :: ds, ps, hr, ⟨p, q, h1, h2, h3⟩, hs, hp => by
    subst h3
    simp only [List.all_cons, Bool.and_eq_true, decide_eq_true_eq] at hr
    exact ⟨p, q, WideElems.Trod_stays hl hr.1.1 hr.1.2 h1 (fun x hx => hs x (List.mem_append_left _ hx)) (fun x hx => hp x (List.mem_append_left _ hx)),
      trodAll_stays hl hr.2 h2 (fun x hx => hs x (List.mem_append_right _ hx)) (fun x hx => hp x (List.mem_append_right _ hx)), rfl⟩
  | [], [], _ :: _, _, _, h, _, _ => h.elim
  | [], _ :: _, _, _, _, h, _, _ => h.elim
  | _ :: _, [], _, _, _, h, _, _ => h.elim
  | _ :: _, _ :: _, [], _, _, h, _, _ => h.elim
end

theorem Kept.below {w w' : World} (h : Kept (fun _ => False) w w') : Below w.heap.size w w' := ⟨h.os, h.tape, h.output, h.size, fun k hk => h.block k hk (fun x => x)⟩

theorem wf_range {k : IntKind} {n : Int} (h : (Lit.int k n).wf = true) : k.min ≤ n ∧ n ≤ k.max := by simpa [Lit.wf] using h
theorem wf_u8 {n : Int} (h : (Lit.int .u8 n).wf = true) : 0 ≤ n ∧ n ≤ 255 := wf_range h
theorem wf_u16 {n : Int} (h : (Lit.int .u16 n).wf = true) : 0 ≤ n ∧ n ≤ 65535 := wf_range h
theorem wf_i64 {n : Int} (h : (Lit.int .i64 n).wf = true) : -9223372036854775808 ≤ n ∧ n ≤ 9223372036854775807 := wf_range h

/-- A LAW's ROW: where the contract says true at all arguments of the shapes. -/
theorem law_lifted {H : Type} {enc : TypeId × Value → H} {a : Assume} {C : Checked} {os : Os} {k : FuncId} {fn : Func} {s : ChangeSpec}
    (own : ownKnob C.prog.godebug = none) (started : os.Started) (noInit : C.prog.inits.idxOf? k = none) (hfn : C.prog.funcs[k]? = some fn) (hname : fn.name ≠ "runtime.NumGoroutine") (hbody : fn.body.isSome = true)
    (witness : ∃ (w : World) (tape : Tape) (i : Input), w.os = os ∧ (w.forCall tape i).Shaped C.prog ∧ i.vars = [] ∧ Input.okWide C.prog (w.forCall tape i) .any w.heap.size k i ∧
      s.pre6 enc C.prog fn [] false (w.forCall tape i).memory i.args ∧ a.holds C.prog (lone (Frame.enter C.prog k i.args .normal) [] (w.forCall tape i)))
    (scs : List Sc) (hsc : scsOk C.prog scs fn.params.toList = true) (tb : TypeId) (hres : fn.resultTypes = #[tb]) (htb : C.prog.underlying tb = some .bool) (hv : s.vars = [])
    (hs : ∀ ds : List (DataW H), ds.length = fn.params.toList.length → s.fn H ds = { results := [.lit (.bool true)], args := ds })
    (hl : laidOutB C.prog = true) (hr : fn.params.toList.all (fun t => C.prog.readableRec t && decide (t < C.prog.types.size)) = true)
    (h : ∀ args, Args scs args → Fn [] C.prog k args (.bool true)) :
    ReturnsInHanded a C os k .any (s.pre6 enc C.prog fn [] false) (s.post enc C.prog fn false true false false) := by
  refine returnsInHanded_of_change own started noInit hfn witness ?_
  intro W base args ds gs before hval hW _ _
  obtain ⟨p, q, hA, hV, rfl, hfz, hnd⟩ := id hW
  obtain ⟨ivs, h1, h2, h3⟩ := args_rep hsc hA (fun j t v ht hv => hval j t v (by simpa using ht) (by simpa using hv))
  rw [hv] at hV
  have hg : gs = [] ∧ q = [] := by
    cases gs with
    | nil => exact ⟨rfl, hV⟩
    | cons g r => exact hV.elim
  obtain ⟨rfl, rfl⟩ := hg
  have hc := ((h ivs h1).2 W (Old W) args.toList (fun b o hb => hb) h2 (fun p hp => by simp at hp)).calls hfn hname hbody
  rw [Array.toArray_toList] at hc
  refine hc.mono fun e W' ⟨v, S', he, hv', _, _, _, hk⟩ => ?_
  have hv' : v = .bool true := hv'
  subst hv'
  refine ⟨.bool true, he, ?_⟩
  have hb := hk.below
  have hfn' : s.fn H (ds ++ []) = { results := [.lit (.bool true)], args := ds } := by rw [List.append_nil]; exact hs ds h3
  have hlt : ∀ x ∈ p, x.block < W.heap.size := fun x hx => hW.lt x (List.mem_append_left _ hx)
  refine ⟨ds, [], p ++ [], [], p, [], hW, ?_, ?_, ?_, ?_, fun hh => by cases hh⟩
  · rw [hfn', hres]
    exact ⟨[], [], shut_bool htb true, rfl, rfl⟩
  · rw [hfn']
    exact trodAll_stays hl hr hA (fun x hx => hb.same (hlt x hx)) (fun x hx => by simpa using hlt x hx)
  · rw [hfn', hv]; rfl
  · exact World.keptBut_mono (fun x hx => ⟨hx, .inr (.inl (by simpa using hx))⟩) (hb.frame (· ∈ p ++ []))
end Go.Vs
set_option linter.unusedVariables false
set_option linter.unusedSimpArgs false
namespace Go.Vs
open Go.ChangeShapes Go.WideShapes Go.RowKit

theorem FnR.globals {P : Program} {k : FuncId} {args : List IV} {r : Res} {gl : List (Nat × List IV)} (h : FnR [] P k args r) : FnR gl P k args r :=
  ⟨h.1, fun w S vs hS hrep _ => h.2 w S vs hS hrep (fun p hp => by simp at hp)⟩
theorem FnM.globals {P : Program} {k : FuncId} {c : MC} {gl : List (Nat × List IV)} (h : FnM [] P k c) : FnM gl P k c :=
  ⟨h.1, fun w S μ β vs hS _ hrep h1 h2 h3 => h.2 w S μ β vs hS (fun p hp => by simp at hp) hrep h1 h2 h3⟩

/-- A LAW's ROW that lists variables: where the contract says true at all arguments of the shapes, over what the variables hold. -/
theorem law_lifted_laid {H : Type} {enc : TypeId × Value → H} {a : Assume} {C : Checked} {os : Os} {k : FuncId} {fn : Func} {s : ChangeSpec} {laid : List (String × DataW Unit)} {gl : List (Nat × List IV)}
    (own : ownKnob C.prog.godebug = none) (started : os.Started) (noInit : C.prog.inits.idxOf? k = none) (hfn : C.prog.funcs[k]? = some fn) (hname : fn.name ≠ "runtime.NumGoroutine") (hbody : fn.body.isSome = true)
    (witness : ∃ (w : World) (tape : Tape) (i : Input), w.os = os ∧ (w.forCall tape i).Shaped C.prog ∧ i.vars = [] ∧ Input.okWide C.prog (w.forCall tape i) .any w.heap.size k i ∧
      ((s.pre enc C.prog fn [] false (w.forCall tape i).memory i.args ∧ laidMetH C.prog laid (w.forCall tape i).memory) ∧ sizedMet enc C.prog fn (OpenSpec.ofChange s) false (w.forCall tape i).memory i.args) ∧ a.holds C.prog (lone (Frame.enter C.prog k i.args .normal) [] (w.forCall tape i)))
    (hgl : ∀ W, laidMetH C.prog laid W → ∀ p, p ∈ gl → RepGl W (Old W) p)
    (scs : List Sc) (hsc : scsOk C.prog scs fn.params.toList = true) (tb : TypeId) (hres : fn.resultTypes = #[tb]) (htb : C.prog.underlying tb = some .bool) (hv : s.vars = [])
    (hs : ∀ ds : List (DataW H), ds.length = fn.params.toList.length → s.fn H ds = { results := [.lit (.bool true)], args := ds })
    (hl : laidOutB C.prog = true) (hr : fn.params.toList.all (fun t => C.prog.readableRec t && decide (t < C.prog.types.size)) = true)
    (h : ∀ args, Args scs args → Fn gl C.prog k args (.bool true)) :
    ReturnsInHanded a C os k .any (fun w args => (s.pre enc C.prog fn [] false w args ∧ laidMetH C.prog laid w) ∧ sizedMet enc C.prog fn (OpenSpec.ofChange s) false w args) (s.post enc C.prog fn false true false false) := by
  refine returnsInHanded_of_change_and (X := fun w _ => laidMetH C.prog laid w) (fun _ _ _ hh h => h.of_heap hh) own started noInit hfn witness ?_
  intro W base args ds gs before hval hW _ _ hL _
  obtain ⟨p, q, hA, hV, rfl, hfz, hnd⟩ := id hW
  obtain ⟨ivs, h1, h2, h3⟩ := args_rep hsc hA (fun j t v ht hv => hval j t v (by simpa using ht) (by simpa using hv))
  rw [hv] at hV
  have hg : gs = [] ∧ q = [] := by
    cases gs with
    | nil => exact ⟨rfl, hV⟩
    | cons g r => exact hV.elim
  obtain ⟨rfl, rfl⟩ := hg
  have hc := ((h ivs h1).2 W (Old W) args.toList (fun b o hb => hb) h2 (hgl W hL)).calls hfn hname hbody
  rw [Array.toArray_toList] at hc
  refine hc.mono fun e W' ⟨v, S', he, hv', _, _, _, hk⟩ => ?_
  have hv' : v = .bool true := hv'
  subst hv'
  refine ⟨.bool true, he, ?_⟩
  have hb := hk.below
  have hfn' : s.fn H (ds ++ []) = { results := [.lit (.bool true)], args := ds } := by rw [List.append_nil]; exact hs ds h3
  have hlt : ∀ x ∈ p, x.block < W.heap.size := fun x hx => hW.lt x (List.mem_append_left _ hx)
  refine ⟨ds, [], p ++ [], [], p, [], hW, ?_, ?_, ?_, ?_, fun hh => by cases hh⟩
  · rw [hfn', hres]
    exact ⟨[], [], shut_bool htb true, rfl, rfl⟩
  · rw [hfn']
    exact trodAll_stays hl hr hA (fun x hx => hb.same (hlt x hx)) (fun x hx => by simpa using hlt x hx)
  · rw [hfn', hv]; rfl
  · exact World.keptBut_mono (fun x hx => ⟨hx, .inr (.inl (by simpa using hx))⟩) (hb.frame (· ∈ p ++ []))

/-- Cells of a world, read as integers. -/
theorem repCells_ints {w : World} {k : IntKind} {b : Nat} : ∀ {zs : List Int} {off : Nat}, (∀ i, i < zs.length → w.cell? ⟨b, off + i, none⟩ = some (.int k (zs.getD i 0))) → RepCells w (Old w) (zs.map (.int k ·)) b off
  | [], _, _ => trivial
  | z :: r, off, h => by
    have h0 := h 0 (by simp)
    refine ⟨(cell_old h0).1, rfl, ⟨_, by simpa using h0, rfl⟩, repCells_ints (fun i hi => ?_)⟩
    have := h (i + 1) (by simp; omega)
    rw [show off + 1 + i = off + (i + 1) by omega]
    simpa using this
end Go.Vs
set_option linter.unusedVariables false
set_option linter.unusedSimpArgs false
namespace Go.Vs
open Go.RowKit Go.Lib

/-- An object in its place. -/
def setO : List (Nat × Ob) → Nat → Ob → List (Nat × Ob)
  | [], _, _ => []
  | (j, x) :: r, k, o => bif j == k then (j, o) :: r else (j, x) :: setO r k o
theorem look_setO : ∀ {l : List (Nat × Ob)} {k : Nat} {x : Ob} (o : Ob), look l k = some x → ∀ j, look (setO l k o) j = if j = k then some o else look l j
  | [], _, _, _, h, _ => by simp [look] at h
  | (i, y) :: r, k, x, o, h, j => by
    simp only [look] at h
    cases hik : i == k with
    | true =>
      have hik' : i = k := by simpa using hik
      subst hik'
      simp only [setO, beq_self_eq_true, cond_true, look]
      cases hij : i == j with
      | true => have : i = j := by simpa using hij
                subst this; simp
      | false =>
        have : ¬ j = i := by intro e; subst e; simp at hij
        simp [this]
    | false =>
      rw [hik] at h
      simp only [cond_false] at h
      simp only [setO, hik, cond_false, look]
      rw [look_setO o h j]
      cases hij : i == j with
      | true =>
        have hij' : i = j := by simpa using hij
        subst hij'
        have : ¬ i = k := by intro e; subst e; simp at hik
        simp [this]
      | false => simp

theorem wrote_cell {w w' : World} {b : Nat} {cs : Array Value} {e : TypeId} {fr : Nat × Nat} (h : Wrote w w' b cs e fr) {p : Addr} (hp : p.block ≠ b) : w'.cell? p = w.cell? p :=
  World.cell?_of_block (h.other _ hp)

/-- A fresh builder: its buffer as an array of its own, with nothing in it. -/
def St.bld (σ : St) (d id t e : Nat) : St := { σ with env := eraseE id σ.env, objs := put (eraseO id (put σ.objs id (.arr 0 1 []))) d (.box [.selfN d t false, .ownT id 0 e]) }
theorem weak_bld {σ : St} {k d t : Nat} (id e : Nat) (hid : id < σ.n) (hne : id ≠ d) (hk : getE σ.env k = .selfN d t true) (hl : look σ.objs d = some (.box [.val .nilp, .val .nilS])) (hro : σ.ro.contains d = false) : Weak σ (σ.bld d id t e) := by
  rintro w0 S0 M a w ⟨S, μ, β, h⟩
  obtain ⟨b, vs, e', fr, hb, hmu, hheap, hfr, v0, _, hcs, _, hv0, v1, _, rfl, _, hv1, rfl⟩ := h.objs d _ hl
  have hv0 : v0 = .pointer none := hv0
  have hv1 : v1 = .slice none 0 0 := hv1
  subst hv1
  subst hv0
  have hself := h.env k
  rw [hk] at hself
  obtain ⟨b', hb', hsh, _⟩ := hself _ hl
  rw [hmu] at hb'
  obtain rfl : b = b' := by simpa using hb'
  have h1 := h.create id hid (.arr 0 1 []) none (.slice none 0 0) (Kept.refl _ _) (by simp) (.inl ⟨rfl, rfl, none, rfl⟩)
  have hl1 : look (eraseO id (put σ.objs id (.arr 0 1 []))) d = some (.box [.val .nilp, .val .nilS]) := by
    rw [look_eraseO, look_put_ne _ _ (fun e => hne e.symm), hl]; rfl
  have hdn : (if d = id then (none : Option Nat) else β d) = some b := by rw [if_neg (fun e => hne e.symm)]; exact hb
  have hmn : (if d = id then Value.slice none 0 0 else μ d) = .pointer (some ⟨b, 0, none⟩) := by rw [if_neg (fun e => hne e.symm)]; exact hmu
  have h2 := h1.write (id := d) (x' := .box [.selfN d t false, .ownT id 0 e]) (w' := w) hl1 hdn (vs := vs) (e := e') (fr := fr) ⟨rfl, rfl, rfl, rfl, fun _ _ => rfl, hheap, fun _ _ h => h⟩ (by
    intro hc
    have : σ.ro.contains d = true := by simpa using hc
    rw [this] at hro; cases hro) (.inl ⟨_, _, rfl, rfl⟩) ⟨b, vs, e', fr, rfl, hmn, hheap, hfr, by
      rw [hcs]
      refine ⟨_, _, rfl, rfl, ?_, _, _, rfl, rfl, ?_, rfl⟩
      · intro cells _
        exact ⟨b, hmn, hsh, .inl ⟨rfl, rfl⟩⟩
      · refine ⟨?_, fun a n c hh => by simp at hh⟩
        intro cv s' rows hlk
        have hlk' : look (eraseO id (put σ.objs id (.arr 0 1 []))) id = some (.arr cv s' rows) := hlk
        rw [look_eraseO, look_put_self] at hlk'
        simp only [Option.map_some, Ob.erase, Option.some.injEq, Ob.arr.injEq] at hlk'
        obtain ⟨rfl, _, _⟩ := hlk'
        exact ⟨Nat.le_refl _, fun _ => by simp⟩⟩
  exact ⟨S, _, _, h2⟩

/-- A CONTRACT OF A CALL THAT WRITES ONE BOX. -/
theorem fnM_wrote {gl : List (Nat × List IV)} {P : Program} {k : FuncId} {args : List SV} {objs : List (Nat × Ob)} {res : SV} {id : Nat} {cells cells' : List SV} (hk : Callable P k) (hid : look objs id = some (.box cells))
    (h : ∀ (w : World) (S : Stab) (μ : Nat → Value) (β : Nat → Option Nat) (vs : List Value) (b : Nat) (cs : Array Value) (e : TypeId) (fr : Nat × Nat), (∀ p, p ∈ gl → RepGl w S p) → SVList w S μ objs args vs →
      (∀ i o, look objs i = some o → ObRel w S μ objs (β i) (μ i) o) → (∀ i i' o o' b, look objs i = some o → look objs i' = some o' → β i = some b → β i' = some b → i = i') →
      β id = some b → μ id = .pointer (some ⟨b, 0, none⟩) → w.heap[b]? = some (.cells cs e fr) → NoFrz fr cs.size → SVOnes w S μ objs cells cs.toList →
      CallDoes P k vs.toArray w fun ev w' => ∃ (v : Value) (w1 : World) (cs' : Array Value), ev = .returned v ∧ Below w.heap.size w w1 ∧ Wrote w1 w' b cs' e fr ∧ cs'.size = cs.size ∧ SVOnes w S μ objs cells' cs'.toList ∧ SVRel w S μ objs res v) :
    FnM gl P k { args := args, objs := objs, res := res, objs' := setO objs id (.box cells'), ro' := [] } := by
  refine ⟨hk, fun w S μ β vs hS hgl hrep hobj hinj hunst => ?_⟩
  obtain ⟨b, cs, e, fr, hb, hmu, hheap, hfr, hcells⟩ := hobj id _ hid
  have hblt : b < w.heap.size := (Array.getElem?_eq_some_iff.1 hheap).1
  refine (h w S μ β vs b cs e fr hgl hrep hobj hinj hb hmu hheap hfr hcells).mono ?_
  rintro ev w' ⟨v, w1, cs', rfl, hbel, hw, hsz, hc', hres⟩
  have hl := look_setO (.box cells') hid
  have shp : ∀ k x, w.shape? k = some x → w'.shape? k = some x := fun k x hx => hw.shape _ _ ((shape_of_heap (hbel.block k (shape_lt hx))).trans hx)
  have keeps : Keeps S w w' := by
    refine ⟨?_, shp⟩
    intro b' o hb'
    have hne : b' ≠ b := fun e => absurd (hunst id _ b o hid hb (e ▸ hb')).1 (by simp)
    rw [wrote_cell hw (p := ⟨b', o, none⟩) hne]
    exact hbel.cell (p := ⟨b', o, none⟩) (hS _ _ hb')
  have same : ∀ (x : SV) (u : Value), SVRel w S μ objs x u → SVRel w' S μ (setO objs id (.box cells')) x u := fun x u hx =>
    SVRel.mono keeps (fun _ _ h => h) _ _ (SVRel.same (objs := objs)
      (fun i cells2 hi => by
        rw [hl] at hi
        split at hi
        · next e1 => subst e1; exact ⟨cells, hid, rfl⟩
        · exact ⟨cells2, hi, rfl⟩)
      (fun i cv s rows hi => by
        rw [hl] at hi
        split at hi
        · simp at hi
        · exact ⟨cv, rows, hi, Nat.le_refl _, fun _ => ⟨rfl, rfl⟩⟩)
      (fun i s p hi => by
        rw [hl] at hi
        split at hi
        · simp at hi
        · exact ⟨s, p, hi, rfl⟩)
      (fun i cv s rows ln hi => by
        rw [hl] at hi
        split at hi
        · simp at hi
        · exact ⟨cv, rows, ln, hi, Nat.le_refl _, fun _ => ⟨rfl, rfl⟩⟩) x u hx)
  have sames : ∀ (xs : List SV) (us : List Value), SVOnes w S μ objs xs us → SVOnes w' S μ (setO objs id (.box cells')) xs us := by
    intro xs
    induction xs with
    | nil => intro us h; exact h
    | cons x r ih => rintro us ⟨u, us', e1, e2, e3, e4⟩; exact ⟨u, us', e1, e2, same _ _ e3, ih _ e4⟩
  have blk : ∀ i o b', look objs i = some o → β i = some b' → b' < w.heap.size := by
    intro i o b' hi hbi
    have := hobj i o hi
    cases o with
    | box c => obtain ⟨b2, vs2, e2, fr2, q1, _, q3, _⟩ := this; rw [hbi] at q1; obtain rfl := Option.some.inj q1; exact (Array.getElem?_eq_some_iff.1 q3).1
    | arr v2 s2 r2 =>
      rcases this with ⟨_, q1, _⟩ | ⟨b2, c2, vs2, e2, fr2, q1, _, q3, _⟩
      · rw [hbi] at q1; simp at q1
      · rw [hbi] at q1; obtain rfl := Option.some.inj q1; exact (Array.getElem?_eq_some_iff.1 q3).1
    | tab v2 s2 r2 l2 =>
      rcases this with ⟨_, _, q1, _⟩ | ⟨b2, _, _, _, _, q1, _, q3, _⟩
      · rw [hbi] at q1; simp at q1
      · rw [hbi] at q1; obtain rfl := Option.some.inj q1; exact (Array.getElem?_eq_some_iff.1 q3).1
    | iter s p => obtain ⟨b2, q1, _, q3⟩ := this; rw [hbi] at q1; obtain rfl := Option.some.inj q1; exact (Array.getElem?_eq_some_iff.1 q3).1
  have heap : ∀ b', b' < w.heap.size → b' ≠ b → w'.heap[b']? = w.heap[b']? := fun b' h1 h2 => (hw.other b' h2).trans (hbel.block b' h1)
  have szs : w.heap.size ≤ w'.heap.size := by have := hbel.size; have := hw.size; omega
  refine ⟨v, S, μ, β, rfl, same _ _ hres, ?_, ?_, ?_, ?_, ?_, fun _ _ h => h, fun _ _ h => .inl h, ?_, ?_, keeps.1⟩
  · intro i o hi
    dsimp only at hi ⊢
    rw [hl] at hi
    split at hi
    · next e1 =>
      subst e1
      obtain rfl := Option.some.inj hi
      refine ⟨b, cs', e, fr, hb, hmu, hw.here, by rw [hsz]; exact hfr, sames _ _ hc'⟩
    · next hne =>
      have ho := hobj i o hi
      have hbne : ∀ b', β i = some b' → b' ≠ b := fun b' h1 h2 => hne (hinj i id o _ b hi hid (h2 ▸ h1) hb)
      cases o with
      | box c =>
        obtain ⟨b2, vs2, e2, fr2, q1, q2, q3, q4, q5⟩ := ho
        exact ⟨b2, vs2, e2, fr2, q1, q2, (heap b2 (blk i _ b2 hi q1) (hbne b2 q1)).trans q3, q4, sames _ _ q5⟩
      | arr v2 s2 r2 =>
        rcases ho with ho | ⟨b2, c2, vs2, e2, fr2, q1, q2, q3, q4, q5, q6, q7, q8⟩
        · exact .inl ho
        · exact .inr ⟨b2, c2, vs2, e2, fr2, q1, q2, (heap b2 (blk i _ b2 hi q1) (hbne b2 q1)).trans q3, q4, q5, q6, q7, RepOnes.mono keeps (fun _ _ h => h) _ _ q8⟩
      | tab v2 s2 r2 l2 =>
        rcases ho with ho | ⟨b2, c2, vs2, e2, fr2, q1, q2, q3, q4, q5, q6, q7, q8, q9⟩
        · exact .inl ho
        have lns : ∀ (l : List (Nat × Nat × SV)), LnRel w S μ objs s2 r2.length vs2.toList l → LnRel w' S μ (setO objs id (.box cells')) s2 r2.length vs2.toList l := by
          intro l
          induction l with
          | nil => intro _; trivial
          | cons p r ih => rintro ⟨⟨e1, e2, v, e3, e4⟩, e5⟩; exact ⟨⟨e1, e2, v, e3, same _ _ e4⟩, ih e5⟩
        exact .inr ⟨b2, c2, vs2, e2, fr2, q1, q2, (heap b2 (blk i _ b2 hi q1) (hbne b2 q1)).trans q3, q4, q5, q6, q7, RepOnes.mono keeps (fun _ _ h => h) _ _ q8, lns _ q9⟩
      | iter s p =>
        obtain ⟨b2, q1, q2, q3⟩ := ho
        exact ⟨b2, q1, q2, (heap b2 (blk i _ b2 hi q1) (hbne b2 q1)).trans q3⟩
  · intro i i' o o' b' h1 h2 h3 h4
    dsimp only at h1 h2
    rw [hl] at h1 h2
    have g : ∀ j x, (if j = id then some (Ob.box cells') else look objs j) = some x → ∃ y, look objs j = some y := by
      intro j x hx
      split at hx
      · next e1 => subst e1; exact ⟨_, hid⟩
      · exact ⟨_, hx⟩
    obtain ⟨y1, g1⟩ := g i o h1
    obtain ⟨y2, g2⟩ := g i' o' h2
    exact hinj i i' y1 y2 b' g1 g2 h3 h4
  · intro i o b' h1 h2
    dsimp only at h1
    rw [hl] at h1
    right
    split at h1
    · next e1 => subst e1; exact ⟨_, _, hid, h2⟩
    · exact ⟨_, _, h1, h2⟩
  · intro i o b' off h1 h2 h3
    dsimp only at h1
    rw [hl] at h1
    exfalso
    split at h1
    · next e1 => subst e1; exact absurd (hunst _ _ b' off hid h2 h3).1 (by simp)
    · exact absurd (hunst _ _ b' off h1 h2 h3).1 (by simp)
  · exact fun b' o h1 => Nat.lt_of_lt_of_le (hS b' o h1) szs
  · refine ⟨hw.os.trans hbel.os, hw.tape.trans hbel.tape, hw.output.trans hbel.output, szs, fun b' h1 h2 => heap b' h1 (fun e1 => h2 ⟨id, _, hid, e1 ▸ hb⟩), shp⟩
  · intro i o hi
    have hh : SVRel w S μ objs (hdl i o) (μ i) := by
      cases o with
      | box c =>
        intro cells2 h2
        obtain ⟨b2, _, _, _, _, q2, _⟩ := hobj i _ hi
        exact ⟨b2, q2, q2⟩
      | arr v2 s2 r2 =>
        intro cv s rows h2
        rw [hi] at h2
        simp only [Option.some.injEq, Ob.arr.injEq] at h2
        obtain ⟨rfl, rfl, rfl⟩ := h2
        exact ⟨Nat.le_refl _, fun _ => rfl⟩
      | iter s p => intro s2 p2 h2; rfl
      | tab v2 s2 r2 l2 =>
        intro cv s rows ln h2
        rw [hi] at h2
        simp only [Option.some.injEq, Ob.tab.injEq] at h2
        obtain ⟨rfl, rfl, rfl, rfl⟩ := h2
        exact ⟨Nat.le_refl _, fun _ => rfl⟩
    exact same _ _ hh

/-- A contract of a call that leaves the world as it is, or makes memory. -/
theorem fn_below {gl : List (Nat × List IV)} {P : Program} {k : FuncId} {args : List IV} {res : IV} (hk : Callable P k) 
    (h : ∀ (w : World) (S : Stab) (vs : List Value), (∀ b o, S b o → b < w.heap.size) → (∀ p, p ∈ gl → RepGl w S p) → RepList w S args vs →
      CallDoes P k vs.toArray w fun ev w' => ∃ v, ev = .returned v ∧ Below w.heap.size w w' ∧ Rep w S res v) : Fn gl P k args res := by
  refine ⟨hk, fun w S vs hS hrep hgl => ?_⟩
  refine (h w S vs hS hgl hrep).mono ?_
  rintro ev w' ⟨v, rfl, hb, hr⟩
  have shp : ∀ k x, w.shape? k = some x → w'.shape? k = some x := fun k x hx => (shape_of_heap (hb.block k (shape_lt hx))).trans hx
  refine ⟨v, S, rfl, ?_, fun _ _ h => h, fun _ _ h => .inl h, fun b o h1 => Nat.lt_of_lt_of_le (hS b o h1) hb.size, ⟨hb.os, hb.tape, hb.output, hb.size, fun k h1 _ => hb.block k h1, shp⟩⟩
  exact Rep.mono ⟨fun b o h1 => hb.cell (p := ⟨b, o, none⟩) (hS _ _ h1), shp⟩ (fun _ _ h => h) _ _ hr
/-- One of the model's own functions, that only computes. -/
theorem fn_extern {gl : List (Nat × List IV)} {P : Program} {k : FuncId} {args : List IV} {res : IV} (hk : Callable P k)
    (h : ∀ (w : World) (S : Stab) (vs : List Value), RepList w S args vs → ∃ v, (callFunc k vs.toArray).run P w = .ok (.value v) w ∧ Rep w S res v) : Fn gl P k args res :=
  fn_below hk fun w S vs hS hgl hrep => by
    obtain ⟨v, h1, h2⟩ := h w S vs hrep
    exact .inr ⟨v, w, h1, v, rfl, Below.refl _ _, h2⟩
theorem callDoes_of {P : Program} {k : FuncId} {fn : Func} {args : Array Value} {w : World} {R : Ending → World → Prop} (hf : P.funcs[k]? = some fn) (hb : fn.body.isSome = true) (h : Calls P k args w R) : CallDoes P k args w R := .inl ⟨⟨fn, hf, hb⟩, h⟩
theorem notFrz {w : World} {b : Nat} {cs : Array Value} {e : TypeId} {fr : Nat × Nat} (h : w.heap[b]? = some (.cells cs e fr)) (hf : NoFrz fr cs.size) (h0 : 0 < cs.size) : w.frozen? ⟨b, 0, none⟩ = false := frozen_row h hf h0
theorem cellAt {w : World} {b : Nat} {cs : Array Value} {e : TypeId} {fr : Nat × Nat} {i : Nat} {v : Value} (h : w.heap[b]? = some (.cells cs e fr)) (hv : cs[i]? = some v) : w.cell? ⟨b, i, none⟩ = some v := by
  simp [World.cell?, h, hv]
end Go.Vs
set_option linter.unusedVariables false
set_option linter.unusedSimpArgs false
namespace Go.Vs
/-- Slots forgotten, slots and objects laid anew; all else as it is. -/
def St.upd (σ : St) (D : List Nat) (E : List (Nat × SV)) (O : List (Nat × Ob)) : St :=
  ⟨E ++ σ.env.filter (fun p => !(D.contains p.1 || E.any (fun q => q.1 == p.1))), O ++ σ.objs.filter (fun p => !(O.any (fun q => q.1 == p.1))), σ.ro, σ.n, σ.gl⟩
theorem loopU {P : Program} (hm : P.follows .mixedOrders = true) {ι : Type} (D : List Nat) (E : ι → List (Nat × SV)) (O : ι → List (Nat × Ob)) (A : ι → Prop) (m : ι → Nat) (i0 : ι) {b : VCode} {Q : Exit → St → Prop} {σ : St} (hA : A i0) (h0 : Weak σ (σ.upd D (E i0) (O i0)))
    (round : ∀ i, A i → pw P b (fun e σ' => match e with
      | .normal => @LoopEnd ι σ' (m i) ⟨fun i => σ.upd D (E i) (O i)⟩ ⟨A⟩ ⟨m⟩
      | e => Q e σ') (σ.upd D (E i) (O i))) : @TVW P σ ⟨.loop b⟩ ⟨Q⟩ := loopW hm (fun i => σ.upd D (E i) (O i)) A m i0 hA h0 (fun _ => _root_.id rfl) round
theorem cutU {P : Program} (hm : P.follows .mixedOrders = true) {ι : Type} (D : List Nat) (ro : List Nat) (E : ι → List (Nat × SV)) (O : ι → List (Nat × Ob)) (A : ι → Prop) {x y : VCode} {Q : Exit → St → Prop} {σ : St}
    (h1 : pw P x (fun e σ' => match e with
      | .normal => @JoinEnd ι σ' ⟨fun i => { σ.upd D (E i) (O i) with ro := ro }⟩ ⟨A⟩
      | e => Q e σ') σ) (h2 : ∀ i, A i → pw P y Q { σ.upd D (E i) (O i) with ro := ro }) : @CutW P σ ⟨.seq x y⟩ ⟨Q⟩ := cutW hm (fun i => { σ.upd D (E i) (O i) with ro := ro }) A (fun _ => _root_.id rfl) h1 h2
attribute [simp] St.upd
/- Branches that arithmetic decides; sums that stay in their kind: for 'simp' with a discharger. -/
theorem br_yes {p : Prop} [Decidable p] {A B : Prop} (h : p) : @Br (decide p) ⟨A⟩ ⟨B⟩ = A := by rw [decide_eq_true h]; exact br_true
theorem br_no {p : Prop} [Decidable p] {A B : Prop} (h : ¬ p) : @Br (decide p) ⟨A⟩ ⟨B⟩ = B := by rw [decide_eq_false h]; exact br_false
theorem wrap_i64 {x : Int} (h1 : -9223372036854775808 ≤ x) (h2 : x ≤ 9223372036854775807) : IntKind.i64.wrap x = x := by rw [IntKind.wrap_i64]; omega
theorem wrap_u8 {x : Int} (h1 : 0 ≤ x) (h2 : x ≤ 255) : IntKind.u8.wrap x = x := by rw [IntKind.wrap_u8]; omega
theorem wrap_i32 {x : Int} (h1 : -2147483648 ≤ x) (h2 : x ≤ 2147483647) : IntKind.i32.wrap x = x := by rw [IntKind.wrap_i32]; omega
end Go.Vs
set_option linter.unusedVariables false
set_option linter.unusedSimpArgs false
namespace Go.Vs
theorem put_val {w0 w : World} {S0 S : Stab} {M : Ctx} {σ : St} {a : Act} {μ : Nat → Value} {β : Nat → Option Nat} (h : SimG w0 S0 M σ a w S μ β) {k : Nat} (hkn : k < σ.n) {x : Value} (hx : a.tmps.getD k Go.undef = x) : a.put (some k) x = a := by
  have hlt : k < a.tmps.size := by rw [h.size]; exact hkn
  have : a.tmps.setIfInBounds k x = a.tmps := by
    apply Array.ext
    · simp
    · intro i h3 h4
      rw [Array.getElem_setIfInBounds]
      split
      · next e => subst e; rw [← hx]; simp [h4]
      · rfl
  simp only [Act.put, this]
/-- A nil slice is a table, with nothing in it. -/
def St.adoptT (σ : St) (k id s : Nat) : St := { σ with env := put (eraseE id σ.env) k (.town id 0), objs := eraseO id (put σ.objs id (.tab 0 s [] [])) }
theorem weak_adoptT {σ : St} {k : Nat} (id s : Nat) (hid : id < σ.n) (hk : getE σ.env k = .nils) : Weak σ (σ.adoptT k id s) := by
  rintro w0 S0 M a w ⟨S, μ, β, h⟩
  have hrel := h.env k
  rw [hk] at hrel
  obtain ⟨x, hx⟩ := hrel
  have h1 := h.create id hid (.tab 0 s [] []) none (.slice x 0 0) (Kept.refl _ _) (by simp) (.inl ⟨rfl, rfl, rfl, x, rfl⟩)
  have hkn : k < σ.n := by
    rcases Nat.lt_or_ge k σ.n with hh | hh
    · exact hh
    · rw [← h.size] at hh
      rw [Array.getD, dif_neg (by omega)] at hx
      simp [Go.undef] at hx
  have h2 := h1.put (sv := .town id 0) (v := .slice x 0 0) hkn (by
    intro cv s' rows ln hl
    rw [look_eraseO, look_put_self] at hl
    simp only [Option.map_some, Ob.erase, Option.some.injEq, Ob.tab.injEq] at hl
    obtain ⟨rfl, _, _⟩ := hl
    exact ⟨Nat.le_refl _, fun _ => by simp⟩)
  rw [put_val h hkn hx] at h2
  exact ⟨S, _, _, h2⟩
/-- A table of the call's own, from now on never written. -/
theorem weak_freezeT {σ : St} {k id ver s : Nat} {rows : List (List IV)} {ln : List (Nat × Nat × SV)} (hk : getE σ.env k = .town id ver) (hl : look σ.objs id = some (.tab ver s rows ln)) :
    Weak σ { σ with env := put σ.env k (.val (.slice rows)), ro := id :: σ.ro } := by
  rintro w0 S0 M a w ⟨S, μ, β, h⟩
  have hrel := h.env k
  rw [hk] at hrel
  have hv := (hrel _ _ _ _ hl).2 rfl
  have h2 := h.freeze [id]
  have hr := tab_rep h hl (fz := [id]) (by simp)
  rw [← hv] at hr
  refine ⟨_, μ, β, { h2 with env := fun k' => ?_ }⟩
  show SVRel w _ μ σ.objs (getE (Vs.put σ.env k (.val (.slice rows))) k') _
  rw [getE_put]
  split
  · next e => subst e; exact hr
  · exact h2.env k'
/-- What a nil slice in a variable may be taken for. -/
def freshOb (t : Bool) (s : Nat) : Ob := bif t then .tab 0 s [] [] else .arr 0 s []
def freshSV (t : Bool) (id : Nat) : SV := bif t then .town id 0 else .own id 0
def St.adoptC (σ : St) (t : Bool) (d j id s : Nat) (cells : List SV) : St := { σ with env := eraseE id σ.env, objs := put (eraseO id (put σ.objs id (freshOb t s))) d (.box ((eraseL id cells).set j (freshSV t id))) }
/-- A nil slice in a variable is a table, or an array, with nothing in it. -/
theorem weak_cell {σ : St} (t : Bool) {d j : Nat} {cells : List SV} (id s : Nat) (hid : id < σ.n) (hne : id ≠ d) (hl : look σ.objs d = some (.box cells)) (hj : cells[j]? = some .nils) (hro : σ.ro.contains d = false) : Weak σ (σ.adoptC t d j id s cells) := by
  rintro w0 S0 M a w ⟨S, μ, β, h⟩
  obtain ⟨b, vs, e', fr, hb, hmu, hheap, hfr, hcs⟩ := h.objs d _ hl
  obtain ⟨v, hv, hv1, x, hx⟩ := SVOnes.get hcs hj
  have hfo : ObRel w S μ σ.objs none (.slice x 0 0) (freshOb t s) := by
    cases t with
    | true => exact .inl ⟨rfl, rfl, rfl, x, rfl⟩
    | false => exact .inl ⟨rfl, rfl, x, rfl⟩
  have h1 := h.create id hid (freshOb t s) none (.slice x 0 0) (Kept.refl _ _) (by simp) hfo
  have hl1 : look (eraseO id (put σ.objs id (freshOb t s))) d = some (.box (eraseL id cells)) := by
    rw [look_eraseO, look_put_ne _ _ (fun e => hne e.symm), hl]; rfl
  have hdn : (if d = id then (none : Option Nat) else β d) = some b := by rw [if_neg (fun e => hne e.symm)]; exact hb
  have hmn : (if d = id then Value.slice x 0 0 else μ d) = .pointer (some ⟨b, 0, none⟩) := by rw [if_neg (fun e => hne e.symm)]; exact hmu
  obtain ⟨b2, vs2, e2, fr2, k1, k2, k3, k4, k5⟩ := h1.objs d _ hl1
  simp only [hdn] at k1
  obtain rfl := Option.some.inj k1
  rw [hheap] at k3
  simp only [Option.some.injEq, Go.Obj.cells.injEq] at k3
  obtain ⟨rfl, rfl, rfl⟩ := k3
  have hown : SVRel w S (fun i => if i = id then Value.slice x 0 0 else μ i) (eraseO id (put σ.objs id (freshOb t s))) (freshSV t id) v := by
    rw [hx]
    cases t with
    | true =>
      intro cv s' rows ln hlk
      rw [look_eraseO, look_put_self] at hlk
      simp only [freshOb, cond_true, Option.map_some, Ob.erase, Option.some.injEq, Ob.tab.injEq] at hlk
      obtain ⟨rfl, _, _⟩ := hlk
      exact ⟨Nat.le_refl _, fun _ => by simp⟩
    | false =>
      intro cv s' rows hlk
      rw [look_eraseO, look_put_self] at hlk
      simp only [freshOb, cond_false, Option.map_some, Ob.erase, Option.some.injEq, Ob.arr.injEq] at hlk
      obtain ⟨rfl, _, _⟩ := hlk
      exact ⟨Nat.le_refl _, fun _ => by simp⟩
  have hset : vs.toList.set j v = vs.toList := by
    apply List.ext_getElem?
    intro i
    rw [List.getElem?_set]
    split
    · next e =>
      subst e
      split
      · exact hv.symm
      · next h0 => rw [List.getElem?_eq_none (by omega)]
    · rfl
  have h2 := h1.write (id := d) (x' := .box ((eraseL id cells).set j (freshSV t id))) (w' := w) hl1 hdn (vs := vs) (e := e') (fr := fr) ⟨rfl, rfl, rfl, rfl, fun _ _ => rfl, hheap, fun _ _ h => h⟩ (by
    intro hc
    have : σ.ro.contains d = true := by simpa using hc
    rw [this] at hro; cases hro) (.inl ⟨_, _, rfl, rfl⟩) ⟨b, vs, e', fr, rfl, hmn, hheap, hfr, by
      have := SVOnes.set j k5 hv1 hown
      rw [hset] at this
      exact this⟩
  exact ⟨S, _, _, h2⟩
end Go.Vs
