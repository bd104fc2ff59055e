/- Value semantics: the contract of a call that turns objects, by its code. No conditions. -/
import Derived.Test.YtjfleklkloohgaaVs21
set_option linter.unusedVariables false
set_option linter.unusedSimpArgs false
namespace Go.Vs

def envS : Nat → List SV → List (Nat × SV)
  | _, [] => []
  | i, x :: r => (i, x) :: envS (i + 1) r
def stM (gl : List (Nat × List IV)) (c : MC) (n : Nat) : St := ⟨envS 0 c.args, c.objs, [], n, gl⟩
def farK (n : Nat) : List (Nat × Ob) → Bool
  | [] => true
  | (i, _) :: r => decide (n ≤ i) && farK n r
theorem farK_get {n : Nat} : ∀ {l : List (Nat × Ob)}, farK n l = true → ∀ i o, look l i = some o → n ≤ i
  | [], _, _, _, h => by simp [look] at h
  | (j, x) :: r, hk, i, o, h => by
    simp only [farK, Bool.and_eq_true, decide_eq_true_eq] at hk
    simp only [look] at h
    cases hj : j == i
    · rw [hj] at h; exact farK_get hk.2 i o h
    · rw [beq_iff_eq] at hj; subst hj; exact hk.1
def resM (σ : St) : List VRes → Option (SV × List Nat)
  | [] => some (.val (.tuple []), [])
  | [.tmp t] => some (getE σ.env t, [])
  | [.cell t g] => match getE σ.env t with
    | .loc id off => match look σ.objs id with
      | some (.box cells) => match g with
        | some n => if off + n ≤ cells.length then some (mkAgg ((cells.drop off).take n), []) else none
        | none => match cells[off]? with
          | some c => some (c, [])
          | none => none
      | _ => none
    | _ => none
  | rs => match resIVs σ rs with
    | some (vs, fz) => some (.val (.tuple vs), fz)
    | none => none
/-- What it gives and leaves. -/
def fnPostM (rs : List VRes) (c : MC) : Exit → St → Prop
  | .normal, σ => ∃ σ' fz, Weak σ σ' ∧ σ'.objs = c.objs' ∧ resM σ' rs = some (c.res, fz) ∧ c.ro' = fz ++ σ'.ro
  | .ret, σ => ∃ σ' fz, Weak σ σ' ∧ σ'.objs = c.objs' ∧ resM σ' rs = some (c.res, fz) ∧ c.ro' = fz ++ σ'.ro
  | _, _ => False

theorem envS_get {w : World} {S : Stab} {μ : Nat → Value} {objs : List (Nat × Ob)} : ∀ {args : List SV} {vs : List Value} (i : Nat), SVList w S μ objs args vs → ∀ k, SVRel w S μ objs (getE (envS i args) k) ((vs[k - i]?).getD Go.undef)
  | [], _, i, _, k => trivial
  | x :: r, _, i, ⟨v, vs', h1, h2, h3⟩, k => by
    subst h1
    simp only [envS, getE, look]
    cases hk : i == k with
    | true =>
      rw [beq_iff_eq] at hk
      subst hk
      simp only [cond_true, Option.getD_some, Nat.sub_self, List.getElem?_cons_zero]
      exact h2
    | false =>
      have hne : i ≠ k := by simpa using hk
      have ih := envS_get (i + 1) h3 k
      simp only [cond_false]
      rcases Nat.lt_or_ge i k with hlt | hge
      · rw [show k - i = (k - (i + 1)) + 1 by omega]
        rw [List.getElem?_cons_succ]
        exact ih
      · have : getE (envS (i + 1) r) k = .undef := by
          have gen : ∀ (l : List SV) (j : Nat), k < j → getE (envS j l) k = .undef := by
            intro l
            induction l with
            | nil => intro j _; rfl
            | cons y l ih =>
              intro j hj
              have : (j == k) = false := by simp; omega
              simp only [envS, getE, look, this, cond_false]
              exact ih (j + 1) (by omega)
          exact gen r (i + 1) (by omega)
        show SVRel _ _ _ _ (getE (envS (i + 1) r) k) _
        rw [this]
        trivial
theorem SVList.length {w : World} {S : Stab} {μ : Nat → Value} {objs : List (Nat × Ob)} : ∀ {xs : List SV} {vs : List Value}, SVList w S μ objs xs vs → vs.length = xs.length
  | [], _, h => by have h : _ = _ := h; subst h; rfl
  | _ :: _, _, ⟨_, _, h1, _, h3⟩ => by subst h1; simp [SVList.length h3]

theorem results_run {P : Program} {fn : Func} {tmps : Array Value} {w : World} {us : List Value} (h : (fn.results.toList.mapM (m := Sem) fun rv => match rv with | .tmp t => (pure (tmps.getD t Go.undef) : Sem Value) | .cell ad t => do loadVar t (← asAddr (tmps.getD ad Go.undef))).run P w = .ok us w) :
    (results fn tmps).run P w = .ok (if h : us.toArray.size = 1 then us.toArray[0] else .tuple us.toArray) w := by
  unfold results
  rw [Sem.run_bind, Array.mapM_eq_mapM_toList]
  have : ((List.toArray <$> fn.results.toList.mapM (m := Sem) fun rv => match rv with | .tmp t => (pure (tmps.getD t Go.undef) : Sem Value) | .cell ad t => do loadVar t (← asAddr (tmps.getD ad Go.undef))) : Sem (Array Value)).run P w = .ok us.toArray w := by
    rw [Sem.run_map, h]; rfl
  first
    | (rw [this]; rfl)
    | (erw [this]; rfl)

theorem compRes_length {P : Program} : ∀ {l : List ResultVar} {rs : List VRes}, compRes P l = some rs → l.length = rs.length
  | [], rs, h => by simp only [compRes, Option.some.injEq] at h; subst h; rfl
  | .tmp t :: l, rs, h => by
    simp only [compRes, Option.map_eq_some_iff] at h
    obtain ⟨r, h1, rfl⟩ := h
    simp [compRes_length h1]
  | .cell t ty :: l, rs, h => by
    simp only [compRes] at h
    split at h
    · next g r hg h1 => obtain rfl := Option.some.inj h; simp [compRes_length h1]
    · simp at h

section
variable {P : Program}
theorem resM_sound {w0 w : World} {S0 S : Stab} {M : Ctx} {σ : St} {a : Act} {μ : Nat → Value} {β : Nat → Option Nat} (h : SimG w0 S0 M σ a w S μ β) {fn : Func} {rs : List VRes} (hc : compRes P fn.results.toList = some rs) {r : SV} {fz : List Nat} (hr : resM σ rs = some (r, fz)) :
    ∃ u, (results fn a.tmps).run P w = .ok u w ∧ SVRel w (Plus S β σ.objs fz) μ σ.objs r u := by
  have hlen := compRes_length hc
  have many : ∀ vs, resIVs σ rs = some (vs, fz) → rs.length ≠ 1 → r = .val (.tuple vs) → ∃ u, (results fn a.tmps).run P w = .ok u w ∧ SVRel w (Plus S β σ.objs fz) μ σ.objs r u := by
    rintro vs hv hne rfl
    obtain ⟨us, h1, h2⟩ := resIVs_sound (fz' := fz) h hc hv (fun _ x => x)
    have hrun := results_run h1
    have hl : us.length = vs.length := RepList.length h2
    have hvl : vs.length = rs.length := by
      have gen : ∀ (rs : List VRes) (vs : List IV) (fz : List Nat), resIVs σ rs = some (vs, fz) → vs.length = rs.length := by
        intro rs
        induction rs with
        | nil => intro vs fz hh; simp only [resIVs, Option.some.injEq, Prod.mk.injEq] at hh; obtain ⟨rfl, _⟩ := hh; rfl
        | cons x l ih =>
          intro vs fz hh
          simp only [resIVs] at hh
          split at hh
          · next v f vs' fs _ e2 =>
            simp only [Option.some.injEq, Prod.mk.injEq] at hh
            obtain ⟨rfl, _⟩ := hh
            simp [ih _ _ e2]
          · simp at hh
      exact gen rs vs fz hv
    rw [dif_neg (by simp; omega)] at hrun
    exact ⟨_, hrun, us.toArray, rfl, by simpa using h2⟩
  unfold resM at hr
  split at hr
  · simp only [Option.some.injEq, Prod.mk.injEq] at hr
    obtain ⟨rfl, rfl⟩ := hr
    exact many [] rfl (by simp) rfl
  · next t =>
    simp only [Option.some.injEq, Prod.mk.injEq] at hr
    obtain ⟨rfl, rfl⟩ := hr
    have hfr : fn.results.toList = [.tmp t] := by
      cases hfl : fn.results.toList with
      | nil => rw [hfl] at hlen; simp at hlen
      | cons rv l =>
        rw [hfl] at hlen
        have : l = [] := by simpa using hlen
        subst this
        rw [hfl] at hc
        cases rv with
        | tmp t' => simp [compRes] at hc; rw [hc]
        | cell ad ty =>
          exfalso
          simp only [compRes] at hc
          split at hc <;> simp at hc
    have hrun := results_run (P := P) (fn := fn) (tmps := a.tmps) (w := w) (us := [a.tmps.getD t Go.undef]) (by rw [hfr]; rfl)
    exact ⟨_, hrun, SVRel.mono (Keeps.refl _ _) (fun _ _ x => .inl x) _ _ (h.env t)⟩
  · next t g =>
    obtain ⟨rv, hfr⟩ : ∃ rv, fn.results.toList = [rv] := by
      cases hfl : fn.results.toList with
      | nil => rw [hfl] at hlen; simp at hlen
      | cons rv l =>
        rw [hfl] at hlen
        have : l = [] := by simpa using hlen
        subst this
        exact ⟨rv, rfl⟩
    rw [hfr] at hc
    cases rv with
    | tmp t' => simp [compRes] at hc
    | cell ad ty =>
      simp only [compRes] at hc
      split at hc
      · next g' rs' hg hrs =>
        simp only [Option.some.injEq, List.cons.injEq, VRes.cell.injEq] at hc
        obtain ⟨⟨rfl, rfl⟩, rfl⟩ := hc
        have fin : ∀ u, (do loadVar ty (← asAddr (a.tmps.getD ad Go.undef)) : Sem Value).run P w = .ok u w → (results fn a.tmps).run P w = .ok u w := by
          intro u hu
          refine results_run (P := P) (fn := fn) (tmps := a.tmps) (w := w) (us := [u]) ?_
          rw [hfr, List.mapM_cons]
          simp only [Sem.run_bind] at hu ⊢
          rw [hu]
          rfl
        split at hr
        · next id off heq =>
          have hrel := h.env ad
          rw [heq] at hrel
          split at hr
          · next cells hl =>
            obtain ⟨b, vs, e, fr, _, _, hv, hh, _, hcs⟩ := box_cells h hl hrel
            split at hr
            · next n =>
              split at hr
              · next hle =>
                simp only [Option.some.injEq, Prod.mk.injEq] at hr
                obtain ⟨rfl, rfl⟩ := hr
                have hr' := SVOnes.take n (SVOnes.drop off hcs)
                have hlen : ((vs.toList.drop off).take n).length = n := by
                  have := SVOnes.length hcs
                  rw [List.length_take, List.length_drop]; omega
                refine ⟨.agg ((vs.toList.drop off).take n).toArray, fin _ ?_, SVRel.mono (Keeps.refl _ _) (fun _ _ x => .inl x) _ _ (mkAgg_sound hr')⟩
                simp only [hv, asAddr, Sem.run_bind, Sem.run_pure, Result.andThen_ok]
                exact loadVar_agg hg hlen (fun j v hj => by
                  rw [List.getElem?_take] at hj
                  split at hj
                  · rw [List.getElem?_drop, Array.getElem?_toList] at hj
                    rw [cell_row hh]; exact hj
                  · simp at hj)
              · simp at hr
            · split at hr
              · next c hcc =>
                simp only [Option.some.injEq, Prod.mk.injEq] at hr
                obtain ⟨rfl, rfl⟩ := hr
                obtain ⟨v', h1, _, h2⟩ := SVOnes.get hcs hcc
                refine ⟨v', fin _ ?_, SVRel.mono (Keeps.refl _ _) (fun _ _ x => .inl x) _ _ h2⟩
                simp only [hv, asAddr, Sem.run_bind, Sem.run_pure, Result.andThen_ok]
                exact loadVar_one hg (by rw [cell_row hh]; rw [Array.getElem?_toList] at h1; exact h1)
              · simp at hr
          · simp at hr
        · simp at hr
      · simp at hc
  · next h0 h1 h2 =>
    split at hr
    · next vs fz' hv =>
      simp only [Option.some.injEq, Prod.mk.injEq] at hr
      obtain ⟨rfl, rfl⟩ := hr
      refine many vs hv ?_ rfl
      intro h1'
      obtain ⟨x, rfl⟩ := List.length_eq_one_iff.1 h1'
      cases x with
      | tmp t => exact h1 t rfl
      | cell t g => exact h2 t g rfl
    · simp at hr

/-- THE CONTRACT, by the code. -/
theorem fnM_intro (hm : P.follows .mixedOrders = true) {k : FuncId} {v : VCode} {rs : List VRes} {n : Nat} (hok : FnOk P k v rs n) {gl : List (Nat × List IV)} {c : MC} (hn : c.args.length ≤ n) (hfar : farK n c.objs = true) (h : pw P v (fnPostM rs c) (stM gl c n)) : FnM gl P k c := by
  obtain ⟨fn, cd, hf, hname, hbody, hcomp, hbnd, hres, hnt⟩ := hok
  refine ⟨⟨fn, hf, hname, by rw [hbody]; rfl⟩, fun w S μ β vs hS hgl hrep hobj hinj hunst => ?_⟩
  subst hnt
  refine calls_of_wp hf hbody ?_
  have hl := SVList.length hrep
  -- what is held from outside: the handles on what came in
  have keep : ∀ (l : List (Nat × Ob)), ∃ ks : List (Nat × SV), (∀ p ∈ ks, ∃ o, look c.objs p.1 = some o ∧ p.2 = hdl p.1 o) ∧ ∀ i o, look l i = some o → look c.objs i = some o → (i, hdl i o) ∈ ks := by
    intro l
    induction l with
    | nil => exact ⟨[], by simp, fun i o h => by simp [look] at h⟩
    | cons p r ih =>
      obtain ⟨ks, k1, k2⟩ := ih
      cases hp : look c.objs p.1 with
      | none =>
        refine ⟨ks, k1, fun i o hi hc => ?_⟩
        obtain ⟨j, x⟩ := p
        simp only [look] at hi
        cases hj : j == i
        · rw [hj] at hi; exact k2 i o hi hc
        · rw [beq_iff_eq] at hj; subst hj; rw [hp] at hc; simp at hc
      | some y =>
        refine ⟨(p.1, hdl p.1 y) :: ks, ?_, fun i o hi hc => ?_⟩
        · intro q hq
          rcases List.mem_cons.1 hq with rfl | hq
          · exact ⟨y, hp, rfl⟩
          · exact k1 q hq
        · obtain ⟨j, x⟩ := p
          simp only [look] at hi
          cases hj : j == i
          · rw [hj] at hi; exact List.mem_cons_of_mem _ (k2 i o hi hc)
          · rw [beq_iff_eq] at hj; subst hj
            rw [hp] at hc
            simp only [Option.some.injEq] at hc
            subst hc
            exact List.mem_cons_self
  obtain ⟨ks, ks1, ks2⟩ := keep c.objs
  have start : SimG w S ⟨fun b => ∃ i x, look c.objs i = some x ∧ β i = some b, ks, μ⟩ (stM gl c fn.ntmps) { tmps := vs.toArray ++ Array.replicate (fn.ntmps - vs.toArray.size) Go.undef, defers := [] } w S μ β := by
    refine { defers := rfl, size := ?_, env := ?_, objs := hobj, inj := hinj, own := fun id o b h1 h2 => .inr ⟨id, o, h1, h2⟩, unst := fun id o b off h1 h2 h3 => absurd h3 (hunst id o b off h1 h2), stab := hS, ext := fun _ _ x => x, back := fun _ _ x => .inl x, kept := Kept.refl _ _, hist := ?_, far := ?_, glob := hgl }
    · simp [stM]; omega
    · intro k
      have := envS_get 0 hrep k
      have e : (vs.toArray ++ Array.replicate (fn.ntmps - vs.toArray.size) Go.undef).getD k Go.undef = (vs[k - 0]?).getD Go.undef := by
        rw [Nat.sub_zero]
        rcases Nat.lt_or_ge k vs.length with hk | hk
        · simp [Array.getD, hk, Array.getElem_append_left, Nat.lt_add_right]
        · rw [List.getElem?_eq_none hk, Option.getD_none]
          rw [Array.getD_eq_getD_getElem?, Array.getElem?_append_right (by simpa using hk), Array.getElem?_replicate]
          split <;> rfl
      show SVRel _ _ _ _ (getE (envS 0 c.args) k) _
      rw [e]
      exact this
    · intro p hp
      obtain ⟨o, h1, h2⟩ := ks1 p hp
      rw [h2]
      cases o with
      | box cells =>
        intro cells' hl'
        obtain ⟨b, vs, e, fr, _, q2, _⟩ := hobj _ _ h1
        exact ⟨b, q2, q2⟩
      | arr ver s rows =>
        intro cv s' rows' hl'
        rw [show look (stM gl c fn.ntmps).objs p.1 = look c.objs p.1 from rfl, h1] at hl'
        simp only [Option.some.injEq, Ob.arr.injEq] at hl'
        obtain ⟨rfl, _, _⟩ := hl'
        exact ⟨Nat.le_refl _, fun _ => rfl⟩
    · intro p hp d hd
      obtain ⟨o, h1, h2⟩ := ks1 p hp
      have hge := farK_get hfar _ _ h1
      have hd : d < fn.ntmps := hd
      rw [h2]
      cases o <;> simp [hdl, SV.noRef] <;> omega
  refine wp_mono (pw_sound hm v h cd hcomp hbnd w S _ _ w ⟨S, μ, β, start⟩) (fun e a w' hlift => ?_)
  have fin : ∀ σ, fnPostM rs c .ret σ → Sim w S ⟨fun b => ∃ i x, look c.objs i = some x ∧ β i = some b, ks, μ⟩ σ a w' → a.defers = [] ∧ ∃ u, (results fn a.tmps).run P w' = .ok u w' ∧ ∃ (v : Value) (S' : Stab) (μ' : Nat → Value) (β' : Nat → Option Nat), Ending.returned u = .returned v ∧ SVRel w' S' μ' c.objs' c.res v ∧
      (∀ id o, look c.objs' id = some o → ObRel w' S' μ' c.objs' (β' id) (μ' id) o) ∧
      (∀ id id' o o' b, look c.objs' id = some o → look c.objs' id' = some o' → β' id = some b → β' id' = some b → id = id') ∧
      (∀ id o b, look c.objs' id = some o → β' id = some b → w.heap.size ≤ b ∨ ∃ i x, look c.objs i = some x ∧ β i = some b) ∧
      (∀ id o b off, look c.objs' id = some o → β' id = some b → S' b off → id ∈ c.ro' ∧ ∀ ver s rows, o = .arr ver s rows → off < rows.length * s) ∧
      (∀ b o, S' b o → b < w'.heap.size) ∧ (∀ b o, S b o → S' b o) ∧ (∀ b o, S' b o → S b o ∨ w.heap.size ≤ b ∨ ∃ i x, look c.objs i = some x ∧ β i = some b) ∧
      Kept (fun b => ∃ i x, look c.objs i = some x ∧ β i = some b) w w' ∧
      (∀ id o, look c.objs id = some o → SVRel w' S' μ' c.objs' (hdl id o) (μ id)) := by
    rintro σ ⟨σ', fz, hw, hob, hr, hro⟩ hs
    obtain ⟨S1, μ1, β1, hg⟩ := hw _ _ _ _ _ hs
    refine ⟨hg.defers, ?_⟩
    obtain ⟨u, hu1, hu2⟩ := resM_sound hg hres hr
    have hf := hg.freeze fz
    rw [hob] at hu2
    have hfo := hf.objs
    have hfi := hf.inj
    have hfw := hf.own
    have hfu := hf.unst
    have hfh := hf.hist
    simp only [hob] at hfo hfi hfw hfu hfh
    refine ⟨u, hu1, u, Plus S1 β1 c.objs' fz, μ1, β1, rfl, hu2, ?_, hfi, hfw, ?_, ?_, ?_, ?_, hg.kept, ?_⟩
    · intro id o hl; exact hfo id o hl
    · intro id o b off h1 h2 h3
      obtain ⟨q1, q2⟩ := hfu id o b off h1 h2 h3
      exact ⟨by rw [hro]; exact q1, q2⟩
    · intro b o hS; rw [← hob] at hS; exact hf.stab b o hS
    · intro b o hS; exact .inl (hg.ext b o hS)
    · intro b o hS; rw [← hob] at hS; exact hf.back b o hS
    · intro id o hl
      exact hfh _ (ks2 id o hl hl)
  cases e
  case normal => obtain ⟨σ, h1, _, h2⟩ := hlift; exact fin σ h1 h2
  case ret => obtain ⟨σ, h1, _, h2⟩ := hlift; exact fin σ h1 h2
  case panic => exact hlift.elim
  case outgrown => exact hlift.elim
  case exit => obtain ⟨σ, h1, _⟩ := hlift; exact h1.elim
  case goto => obtain ⟨σ, h1, _⟩ := hlift; exact h1.elim
end
end Go.Vs
