/- Value semantics, part 21: a function's contract from its code. No conditions. -/
import Derived.Test.YtjfleklkloohgaaVs20
set_option linter.unusedVariables false
set_option linter.unusedSimpArgs false
namespace Go.Vs

inductive VRes where
  | tmp (t : Nat)
  | cell (t : Nat) (agg : Option Nat)
  deriving Inhabited, Repr
def compRes (P : Program) : List ResultVar → Option (List VRes)
  | [] => some []
  | .tmp t :: r => (compRes P r).map (VRes.tmp t :: ·)
  | .cell t ty :: r => match aggOf P ty, compRes P r with
    | some g, some rs => some (.cell t g :: rs)
    | _, _ => none

def resIV (σ : St) : VRes → Option (IV × List Nat)
  | .tmp t => toIV σ.objs (getE σ.env t)
  | .cell t g => match getE σ.env t with
    | .loc id off => match look σ.objs id with
      | some (.box cells) => match g with
        | some n => if off + n ≤ cells.length then toIV σ.objs (mkAgg ((cells.drop off).take n)) else none
        | none => match cells[off]? with
          | some c => toIV σ.objs c
          | none => none
      | _ => none
    | _ => none
def resIVs (σ : St) : List VRes → Option (List IV × List Nat)
  | [] => some ([], [])
  | x :: r => match resIV σ x, resIVs σ r with
    | some (v, f), some (vs, fs) => some (v :: vs, f ++ fs)
    | _, _ => none
def resAll (σ : St) (rs : List VRes) : Option IV := match resIVs σ rs with
  | some ([v], _) => some v
  | some (vs, _) => some (.tuple vs)
  | none => none
def resOwn (σ : St) : List VRes → Option (Nat × List (List IV))
  | [.tmp t] => match getE σ.env t with
    | .own id ver => match look σ.objs id with
      | some (.arr cv s rows) => if ver == cv && !σ.ro.contains id then some (s, rows) else none
      | _ => none
    | _ => none
  | _ => none

/-- What a function gives. -/
def fnPost (rs : List VRes) (r : Res) : Exit → St → Prop
  | .normal, σ => match r with
    | .imm v => resAll σ rs = some v
    | .own s rows => resOwn σ rs = some (s, rows)
  | .ret, σ => match r with
    | .imm v => resAll σ rs = some v
    | .own s rows => resOwn σ rs = some (s, rows)
  | _, _ => False

def env0 : Nat → List IV → List (Nat × SV)
  | _, [] => []
  | i, x :: r => (i, .val x) :: env0 (i + 1) r
def st0 (gl : List (Nat × List IV)) (args : List IV) (n : Nat) : St := ⟨env0 0 args, [], [], n, gl⟩
/-- Nothing that was may be written, no handle is held. -/
def Ctx.nothing : Ctx := ⟨fun _ => False, [], fun _ => Go.undef⟩

/-- A function, as it is translated. -/
structure FnOk (P : Program) (k : FuncId) (v : VCode) (rs : List VRes) (n : Nat) : Prop where
  ok : ∃ fn c, P.funcs[k]? = some fn ∧ fn.name ≠ "runtime.NumGoroutine" ∧ fn.body = some c ∧ comp P c = some v.strip ∧ v.bnd n = true ∧ compRes P fn.results.toList = some rs ∧ fn.ntmps = n

theorem env0_get {w : World} {S : Stab} {μ : Nat → Value} {objs : List (Nat × Ob)} : ∀ {args : List IV} {vs : List Value} (i : Nat), RepList w S args vs → ∀ k, SVRel w S μ objs (getE (env0 i args) k) ((vs[k - i]?).getD Go.undef)
  | [], _, i, _, k => trivial
  | x :: r, _, i, ⟨v, vs', h1, h2, h3⟩, k => by
    subst h1
    simp only [env0, getE, look]
    cases hk : i == k with
    | true =>
      rw [beq_iff_eq] at hk
      subst hk
      simp only [cond_true, Option.getD_some, Nat.sub_self, List.getElem?_cons_zero]
      exact h2
    | false =>
      have hne : i ≠ k := by simpa using hk
      have ih := env0_get (μ := μ) (objs := objs) (i + 1) h3 k
      simp only [cond_false]
      rcases Nat.lt_or_ge i k with hlt | hge
      · rw [show k - i = (k - (i + 1)) + 1 by omega]
        rw [List.getElem?_cons_succ]
        exact ih
      · have : getE (env0 (i + 1) r) k = .undef := by
          have gen : ∀ (l : List IV) (j : Nat), k < j → getE (env0 j l) k = .undef := by
            intro l
            induction l with
            | nil => intro j _; rfl
            | cons y l ih =>
              intro j hj
              have : (j == k) = false := by simp; omega
              simp only [env0, getE, look, this, cond_false]
              exact ih (j + 1) (by omega)
          exact gen r (i + 1) (by omega)
        show SVRel _ _ _ _ (getE (env0 (i + 1) r) k) _
        rw [this]
        trivial

theorem sim0 {w : World} {S : Stab} {args : List IV} {vs : List Value} (hS : ∀ b o, S b o → b < w.heap.size) (h : RepList w S args vs) {gl : List (Nat × List IV)} (hgl : ∀ p, p ∈ gl → RepCells w S p.2 p.1 0) {n : Nat} (hn : args.length ≤ n) :
    Sim w S Ctx.nothing (st0 gl args n) { tmps := vs.toArray ++ Array.replicate (n - vs.toArray.size) Go.undef, defers := [] } w := by
  have hl := RepList.length h
  refine ⟨S, fun _ => Go.undef, fun _ => none, { defers := rfl, size := ?_, env := ?_, objs := ?_, inj := ?_, own := ?_, unst := ?_, stab := hS, ext := fun _ _ x => x, back := fun _ _ x => .inl x, kept := Kept.refl _ _, hist := fun p hp => by simp [Ctx.nothing] at hp, far := fun p hp => by simp [Ctx.nothing] at hp, glob := hgl }⟩
  · simp [st0]; omega
  · intro k
    have := env0_get (μ := fun _ => Go.undef) (objs := []) 0 h k
    have e : (vs.toArray ++ Array.replicate (n - vs.toArray.size) Go.undef).getD k Go.undef = (vs[k - 0]?).getD Go.undef := by
      rw [Nat.sub_zero]
      rcases Nat.lt_or_ge k vs.length with hk | hk
      · simp [Array.getD, hk, Array.getElem_append_left, Nat.lt_add_right]
      · rw [List.getElem?_eq_none hk, Option.getD_none]
        rw [Array.getD_eq_getD_getElem?, Array.getElem?_append_right (by simpa using hk), Array.getElem?_replicate]
        split <;> rfl
    show SVRel _ _ _ _ (getE (env0 0 args) k) _
    rw [e]
    exact this
  · intro id o ho; simp [st0, look] at ho
  · intro id id' o o' b ho; simp [st0, look] at ho
  · intro id o b ho; simp [st0, look] at ho
  · intro id o b off ho; simp [st0, look] at ho

section
variable {P : Program}

theorem resIV_sound {w0 w : World} {S0 S : Stab} {M : Ctx} {σ : St} {a : Act} {μ : Nat → Value} {β : Nat → Option Nat} (h : SimG w0 S0 M σ a w S μ β) {rv : ResultVar} {x : VRes} {l : List ResultVar} {rs : List VRes} (hc : compRes P (rv :: l) = some (x :: rs)) {v : IV} {fz fz' : List Nat}
    (hr : resIV σ x = some (v, fz)) (hf : ∀ i, i ∈ fz → i ∈ fz') :
    ∃ u, (match rv with | .tmp t => (pure (a.tmps.getD t Go.undef) : Sem Value) | .cell ad t => do loadVar t (← asAddr (a.tmps.getD ad Go.undef))).run P w = .ok u w ∧ Rep w (Plus S β σ.objs fz') v u := by
  cases rv with
  | tmp t =>
    simp only [compRes, Option.map_eq_some_iff] at hc
    obtain ⟨r, _, he⟩ := hc
    simp only [List.cons.injEq] at he
    obtain ⟨rfl, _⟩ := he
    exact ⟨_, rfl, toIV_sound h hr hf (h.env t)⟩
  | cell t ty =>
    simp only [compRes] at hc
    split at hc
    · next g rs' hg _ =>
      simp only [Option.some.injEq, List.cons.injEq] at hc
      obtain ⟨rfl, _⟩ := hc
      simp only [resIV] at hr
      split at hr
      · next id off heq =>
        have hrel := h.env t
        rw [heq] at hrel
        split at hr
        · next cells hl =>
          obtain ⟨b, vs, e, fr, _, _, hv, hh, _, hcs⟩ := box_cells h hl hrel
          split at hr
          · next n =>
            split at hr
            · next hle =>
              have hr' := SVOnes.take n (SVOnes.drop off hcs)
              have hlen : ((vs.toList.drop off).take n).length = n := by
                have := SVOnes.length hcs
                rw [List.length_take, List.length_drop]; omega
              refine ⟨.agg ((vs.toList.drop off).take n).toArray, ?_, toIV_sound h hr hf (mkAgg_sound hr')⟩
              simp only [hv, asAddr, Sem.run_bind, Sem.run_pure, Result.andThen_ok]
              exact loadVar_agg hg hlen (fun j v hj => by
                rw [List.getElem?_take] at hj
                split at hj
                · rw [List.getElem?_drop, Array.getElem?_toList] at hj
                  rw [cell_row hh]; exact hj
                · simp at hj)
            · simp at hr
          · split at hr
            · next c hcc =>
              obtain ⟨v', h1, _, h2⟩ := SVOnes.get hcs hcc
              refine ⟨v', ?_, toIV_sound h hr hf h2⟩
              simp only [hv, asAddr, Sem.run_bind, Sem.run_pure, Result.andThen_ok]
              exact loadVar_one hg (by rw [cell_row hh]; rw [Array.getElem?_toList] at h1; exact h1)
            · simp at hr
        · simp at hr
      · simp at hr
    · simp at hc

theorem resIVs_sound {w0 w : World} {S0 S : Stab} {M : Ctx} {σ : St} {a : Act} {μ : Nat → Value} {β : Nat → Option Nat} (h : SimG w0 S0 M σ a w S μ β) : ∀ {l : List ResultVar} {rs : List VRes}, compRes P l = some rs → ∀ {vs : List IV} {fz fz' : List Nat},
    resIVs σ rs = some (vs, fz) → (∀ i, i ∈ fz → i ∈ fz') →
    ∃ us, (l.mapM (m := Sem) fun rv => match rv with | .tmp t => (pure (a.tmps.getD t Go.undef) : Sem Value) | .cell ad t => do loadVar t (← asAddr (a.tmps.getD ad Go.undef))).run P w = .ok us w ∧ RepList w (Plus S β σ.objs fz') vs us
  | [], rs, hc, vs, fz, fz', hr, _ => by
    simp only [compRes, Option.some.injEq] at hc
    subst hc
    simp only [resIVs, Option.some.injEq, Prod.mk.injEq] at hr
    obtain ⟨rfl, _⟩ := hr
    exact ⟨[], rfl, rfl⟩
  | rv :: l, rs, hc, vs, fz, fz', hr, hf => by
    obtain ⟨x, rs', rfl, hc'⟩ : ∃ x rs', rs = x :: rs' ∧ compRes P l = some rs' := by
      cases rv with
      | tmp t =>
        simp only [compRes, Option.map_eq_some_iff] at hc
        obtain ⟨r, h1, he⟩ := hc
        exact ⟨_, r, he.symm, h1⟩
      | cell t ty =>
        simp only [compRes] at hc
        split at hc
        · next g r hg h1 => obtain rfl := Option.some.inj hc; exact ⟨_, r, rfl, h1⟩
        · simp at hc
    simp only [resIVs] at hr
    split at hr
    · next v f vs' fs h1 h2 =>
      simp only [Option.some.injEq, Prod.mk.injEq] at hr
      obtain ⟨rfl, rfl⟩ := hr
      obtain ⟨u, r1, r2⟩ := resIV_sound h hc h1 (fun i hi => hf i (List.mem_append_left _ hi))
      obtain ⟨us, r3, r4⟩ := resIVs_sound h hc' h2 (fun i hi => hf i (List.mem_append_right _ hi))
      refine ⟨u :: us, ?_, ⟨u, us, rfl, r2, r4⟩⟩
      rw [List.mapM_cons]
      simp only [Sem.run_bind, r3, Sem.run_pure]
      cases rv <;> simp only at r1 <;> (first | (rw [Sem.run_bind] at r1) | skip) <;> simp_all [Result.andThen]
    · simp at hr

/-- A FUNCTION's CONTRACT, by its code. -/
theorem fn_intro (hm : P.follows .mixedOrders = true) {k : FuncId} {v : VCode} {rs : List VRes} {n : Nat} (hok : FnOk P k v rs n) {gl : List (Nat × List IV)} {args : List IV} {r : Res} (hn : args.length ≤ n) (h : pw P v (fnPost rs r) (st0 gl args n)) : FnR gl P k args r := by
  obtain ⟨fn, c, hf, hname, hbody, hcomp, hbnd, hres, hnt⟩ := hok
  refine ⟨⟨fn, hf, hname, by rw [hbody]; rfl⟩, fun w S vs hS hrep hgl => ?_⟩
  subst hnt
  refine calls_of_wp hf hbody ?_
  refine wp_mono (pw_sound hm v h c hcomp hbnd w S Ctx.nothing _ w (sim0 hS hrep hgl hn)) (fun e a w' hlift => ?_)
  have fin : ∀ σ, fnPost rs r .ret σ → Sim w S Ctx.nothing σ a w' → a.defers = [] ∧ ∃ u, (results fn a.tmps).run P w' = .ok u w' ∧ ∃ v S', Ending.returned u = .returned v ∧ ResRel w S w' S' r v ∧ (∀ b o, S b o → S' b o) ∧ (∀ b o, S' b o → S b o ∨ w.heap.size ≤ b) ∧ (∀ b o, S' b o → b < w'.heap.size) ∧ Kept (fun _ => False) w w' := by
    rintro σ hp ⟨S1, μ, β, hg⟩
    refine ⟨hg.defers, ?_⟩
    cases r with
    | imm x =>
      simp only [fnPost, resAll] at hp
      have mapM_eq : ∀ us : List Value, (fn.results.toList.mapM (m := Sem) fun rv => match rv with | .tmp t => (pure (a.tmps.getD t Go.undef) : Sem Value) | .cell ad t => do loadVar t (← asAddr (a.tmps.getD ad Go.undef))).run P w' = .ok us w' →
          (results fn a.tmps).run P w' = .ok (if h : us.toArray.size = 1 then us.toArray[0] else .tuple us.toArray) w' := by
        intro us hus
        unfold results
        rw [Sem.run_bind, Array.mapM_eq_mapM_toList]
        have : ((List.toArray <$> fn.results.toList.mapM (m := Sem) fun rv => match rv with | .tmp t => (pure (a.tmps.getD t Go.undef) : Sem Value) | .cell ad t => do loadVar t (← asAddr (a.tmps.getD ad Go.undef))) : Sem (Array Value)).run P w' = .ok us.toArray w' := by
          rw [Sem.run_map, hus]; rfl
        first
          | (rw [this]; rfl)
          | (erw [this]; rfl)
      have ext : ∀ fz, (∀ b o, S b o → Plus S1 β σ.objs fz b o) ∧ (∀ b o, Plus S1 β σ.objs fz b o → S b o ∨ w.heap.size ≤ b) ∧ (∀ b o, Plus S1 β σ.objs fz b o → b < w'.heap.size) := by
        intro fz
        have h2 := hg.freeze fz
        refine ⟨fun b o hb => .inl (hg.ext b o hb), fun b o hb => ?_, h2.stab⟩
        rcases h2.back b o hb with h3 | h3 | h3
        · exact .inl h3
        · exact .inr h3
        · exact h3.elim
      split at hp
      · next v' fz hv =>
        obtain rfl := Option.some.inj hp
        obtain ⟨us, h1, h2⟩ := resIVs_sound (fz' := fz) hg hres hv (fun _ x => x)
        obtain ⟨u, us', rfl, h3, h4⟩ := h2
        have h4 : us' = [] := h4
        subst h4
        have := mapM_eq _ h1
        exact ⟨u, by simpa using this, u, _, rfl, h3, (ext fz).1, (ext fz).2.1, (ext fz).2.2, hg.kept⟩
      · next vs' fz hne hv =>
        obtain rfl := Option.some.inj hp
        obtain ⟨us, h1, h2⟩ := resIVs_sound (fz' := fz) hg hres hv (fun _ x => x)
        have := mapM_eq _ h1
        have hsz : ¬ us.toArray.size = 1 := by
          have hlen := RepList.length h2
          simp only [List.size_toArray, hlen]
          intro h1
          obtain ⟨v, rfl⟩ := List.length_eq_one_iff.mp h1
          first | exact hne v fz rfl | exact hne v rfl | exact hne _ _ hv
        rw [dif_neg hsz] at this
        exact ⟨_, this, _, _, rfl, ⟨us.toArray, rfl, by simpa using h2⟩, (ext fz).1, (ext fz).2.1, (ext fz).2.2, hg.kept⟩
      · simp at hp
    | own s rows =>
      simp only [fnPost] at hp
      unfold resOwn at hp
      split at hp
      · next t =>
        split at hp
        · next id ver heq =>
          split at hp
          · next cv s' rows' hl =>
            split at hp
            · next hcond =>
              simp only [Option.some.injEq, Prod.mk.injEq] at hp
              obtain ⟨rfl, rfl⟩ := hp
              simp only [Bool.and_eq_true, Bool.not_eq_true'] at hcond
              have hver : ver = cv := by simpa using hcond.1
              have hro : id ∉ σ.ro := by simpa using hcond.2
              have hrel := hg.env t
              rw [heq] at hrel
              have hv := (hrel _ _ _ hl).2 hver
              have hfr : fn.results.toList = [.tmp t] := by
                cases hfl : fn.results.toList with
                | nil => rw [hfl] at hres; simp [compRes] at hres
                | cons rv l =>
                  rw [hfl] at hres
                  cases rv with
                  | tmp t' =>
                    simp only [compRes, Option.map_eq_some_iff, List.cons.injEq] at hres
                    obtain ⟨r, h1, h2, rfl⟩ := hres
                    simp only [VRes.tmp.injEq] at h2
                    subst h2
                    cases l with
                    | nil => rfl
                    | cons y l =>
                      exfalso
                      cases y <;> simp only [compRes, Option.map_eq_some_iff] at h1
                      · obtain ⟨_, _, h3⟩ := h1; simp at h3
                      · split at h1 <;> simp at h1
                  | cell a ty =>
                    simp only [compRes] at hres
                    split at hres <;> simp at hres
              have hfr' := toList_one hfr
              refine ⟨a.tmps.getD t Go.undef, by simp [results, hfr'], a.tmps.getD t Go.undef, S1, rfl, ⟨β id, ?_, fun b hb => ⟨?_, fun off hS => hro (hg.unst id _ b off hl hb hS).1⟩⟩, hg.ext, fun b o hb => ?_, hg.stab, hg.kept⟩
              · rw [hv]; exact hg.objs id _ hl
              · rcases hg.own id _ b hl hb with h1 | h1
                · exact h1
                · exact h1.elim
              · rcases hg.back b o hb with h1 | h1 | h1
                · exact .inl h1
                · exact .inr h1
                · exact h1.elim
            · simp at hp
          · simp at hp
        · simp at hp
      · simp at hp
  cases e
  case normal => obtain ⟨σ, h1, _, h2⟩ := hlift; exact fin σ h1 h2
  case ret => obtain ⟨σ, h1, _, h2⟩ := hlift; exact fin σ h1 h2
  case panic => exact hlift.elim
  case outgrown => exact hlift.elim
  case exit => obtain ⟨σ, h1, _⟩ := hlift; exact h1.elim
  case goto => obtain ⟨σ, h1, _⟩ := hlift; exact h1.elim

end
end Go.Vs
