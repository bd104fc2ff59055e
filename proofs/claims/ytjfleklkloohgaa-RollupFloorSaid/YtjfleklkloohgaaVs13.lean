/- Value semantics, part 13: contracts of functions; one operation, calls too. No conditions. -/
import Derived.Test.YtjfleklkloohgaaVs12
set_option linter.unusedVariables false
set_option linter.unusedSimpArgs false
namespace Go.Vs

def Callable (P : Program) (k : FuncId) : Prop := ∃ fn, P.funcs[k]? = some fn ∧ fn.name ≠ "runtime.NumGoroutine" ∧ fn.body.isSome = true

/-- What a call gives: an immutable value; or an array of its own, that nobody else holds. -/
inductive Res where
  | imm (v : IV)
  | own (s : Nat) (rows : List (List IV))

def ResRel (w : World) (S : Stab) (w' : World) (S' : Stab) : Res → Value → Prop
  | .imm x, v => Rep w' S' x v
  | .own s rows, v => ∃ blk, ObRel w' S' (fun _ => Go.undef) [] blk v (.arr 0 s rows) ∧ ∀ b, blk = some b → w.heap.size ≤ b ∧ ∀ off, ¬ S' b off

/-- THE CONTRACT of a function at these arguments: in whatever memory they are read, the call returns, what it gives is read so, and nothing that was there has turned. -/
def FnR (gl : List (Nat × List IV)) (P : Program) (k : FuncId) (args : List IV) (r : Res) : Prop :=
  Callable P k ∧ ∀ (w : World) (S : Stab) (vs : List Value), (∀ b o, S b o → b < w.heap.size) → RepList w S args vs → (∀ p, p ∈ gl → RepCells w S p.2 p.1 0) →
    Calls P k vs.toArray w fun e w' => ∃ v S', e = .returned v ∧ ResRel w S w' S' r v ∧ (∀ b o, S b o → S' b o) ∧ (∀ b o, S' b o → S b o ∨ w.heap.size ≤ b) ∧ (∀ b o, S' b o → b < w'.heap.size) ∧ Kept (fun _ => False) w w'

abbrev Fn (gl : List (Nat × List IV)) (P : Program) (k : FuncId) (args : List IV) (res : IV) : Prop := FnR gl P k args (.imm res)

def flatRows : List (List IV) → Bool
  | [] => true
  | r :: rs => IV.flat.flats r && flatRows rs

def callUpd (dst : Option Nat) (fz : List Nat) : Res → Option Upd
  | .imm v => some { v := .val v, fz := if v.flat then [] else fz }
  | .own s rows => match dst with
    | some d => some { v := .own d 0, new := some (.arr 0 s rows), fz := if flatRows rows then [] else fz }
    | none => none
def callArgs (σ : St) (f : SV) (args : List Opd) : Option (FuncId × List IV × List Nat) :=
  match toIV σ.objs f, toIVs σ.objs (args.map (val σ)) with
  | some (.fn k caps, f1), some (ivs, f2) => some (k, ivs ++ caps, f1 ++ f2)
  | _, _ => none

/-- One operation does this. -/
def OpRel (P : Program) (σ : St) (dst : Option Nat) (u : Upd) : VOp → Prop
  | .call f args => ∃ k ivs fz r, callArgs σ (.val (.fn f [])) args = some (k, ivs, fz) ∧ FnR σ.gl P k ivs r ∧ callUpd dst fz r = some u
  | .callV f args => ∃ k ivs fz r, callArgs σ (val σ f) args = some (k, ivs, fz) ∧ FnR σ.gl P k ivs r ∧ callUpd dst fz r = some u
  | op => ev σ dst op = some u ∧ u.side

/-- One operation, forward. -/
def opW (P : Program) (σ : St) (dst : Option Nat) (k : Upd → Prop) : VOp → Prop
  | .call f args => match callArgs σ (.val (.fn f [])) args with
    | some (g, ivs, fz) => ∃ r, FnR σ.gl P g ivs r ∧ match callUpd dst fz r with
      | some u => k u
      | none => False
    | none => False
  | .callV f args => match callArgs σ (val σ f) args with
    | some (g, ivs, fz) => ∃ r, FnR σ.gl P g ivs r ∧ match callUpd dst fz r with
      | some u => k u
      | none => False
    | none => False
  | op => match ev σ dst op with
    | some u => u.side ∧ k u
    | none => False

theorem opW_rel {P : Program} {σ : St} {dst : Option Nat} {k : Upd → Prop} {op : VOp} (h : opW P σ dst k op) : ∃ u, OpRel P σ dst u op ∧ k u := by
  cases op
  case call f args =>
    simp only [opW] at h
    split at h
    · next g ivs fz hc =>
      obtain ⟨r, h1, h2⟩ := h
      split at h2
      · next u hu => exact ⟨u, ⟨g, ivs, fz, r, hc, h1, hu⟩, h2⟩
      · exact h2.elim
    · exact h.elim
  case callV f args =>
    simp only [opW] at h
    split at h
    · next g ivs fz hc =>
      obtain ⟨r, h1, h2⟩ := h
      split at h2
      · next u hu => exact ⟨u, ⟨g, ivs, fz, r, hc, h1, hu⟩, h2⟩
      · exact h2.elim
    · exact h.elim
  all_goals
    simp only [opW] at h
    split at h
    · next u hu => exact ⟨u, ⟨hu, h.1⟩, h.2⟩
    · exact h.elim

mutual
theorem IV.flat_rep {w w' : World} {S S' : Stab} : ∀ (x : IV) (v : Value), x.flat = true → Rep w S x v → Rep w' S' x v
  | .int _ _, _, _, h => h
  | .bool _, _, _, h => h
  | .str _, _, _, h => h
  | .nilp, _, _, h => h
  | .ref _, _, hf, _ => by simp [IV.flat] at hf
  | .slice _, _, hf, _ => by simp [IV.flat] at hf
  | .nilf, _, _, h => h
  | .fn _ _, _, hf, _ => by simp [IV.flat] at hf
  | .nili, _, _, h => h
  | .iface _ x, _, hf, ⟨u, h1, h2⟩ => ⟨u, h1, IV.flat_rep x u (by simpa [IV.flat] using hf) h2⟩
  | .agg cells, _, hf, ⟨vs, h1, h2⟩ => ⟨vs, h1, flats_ones cells _ (by simpa [IV.flat] using hf) h2⟩
  | .tuple xs, _, hf, ⟨vs, h1, h2⟩ => ⟨vs, h1, flats_list xs _ (by simpa [IV.flat] using hf) h2⟩
theorem flats_ones {w w' : World} {S S' : Stab} : ∀ (x : List IV) (v : List Value), IV.flat.flats x = true → RepOnes w S x v → RepOnes w' S' x v
  | [], _, _, h => h
  | x :: xs, _, hf, ⟨u, us, h1, h0, h2, h3⟩ => by
    simp only [IV.flat.flats, Bool.and_eq_true] at hf
    exact ⟨u, us, h1, h0, IV.flat_rep x u hf.1 h2, flats_ones xs us hf.2 h3⟩
theorem flats_list {w w' : World} {S S' : Stab} : ∀ (x : List IV) (v : List Value), IV.flat.flats x = true → RepList w S x v → RepList w' S' x v
  | [], _, _, h => h
  | x :: xs, _, hf, ⟨u, us, h1, h2, h3⟩ => by
    simp only [IV.flat.flats, Bool.and_eq_true] at hf
    exact ⟨u, us, h1, IV.flat_rep x u hf.1 h2, flats_list xs us hf.2 h3⟩
end
theorem flats_append : ∀ {xs ys : List IV}, IV.flat.flats xs = true → IV.flat.flats ys = true → IV.flat.flats (xs ++ ys) = true
  | [], _, _, h => h
  | x :: xs, ys, h, k => by
    simp only [IV.flat.flats, Bool.and_eq_true] at h
    simp only [List.cons_append, IV.flat.flats, Bool.and_eq_true]
    exact ⟨h.1, flats_append h.2 k⟩
theorem flatRows_flatten : ∀ {rows : List (List IV)}, flatRows rows = true → IV.flat.flats rows.flatten = true
  | [], _ => rfl
  | r :: rs, h => by
    simp only [flatRows, Bool.and_eq_true] at h
    simp only [List.flatten_cons]
    exact flats_append h.1 (flatRows_flatten h.2)

section
variable {P : Program} {w0 w : World} {S0 S : Stab} {M : Ctx} {σ : St} {a : Act} {μ : Nat → Value} {β : Nat → Option Nat} {o : Oper}

theorem RepList.append {w : World} {S : Stab} : ∀ {xs ys : List IV} {us vs : List Value}, RepList w S xs us → RepList w S ys vs → RepList w S (xs ++ ys) (us ++ vs)
  | [], _, _, _, h, k => by have h : _ = _ := h; subst h; exact k
  | _ :: _, _, _, _, ⟨u, us', h1, h2, h3⟩, k => by subst h1; exact ⟨u, us' ++ _, rfl, h2, RepList.append h3 k⟩

theorem ObRel.arr_any {w : World} {S : Stab} {μ μ' : Nat → Value} {objs objs' : List (Nat × Ob)} {blk : Option Nat} {mu : Value} {ver s : Nat} {rows : List (List IV)} (h : ObRel w S μ objs blk mu (.arr ver s rows)) : ObRel w S μ' objs' blk mu (.arr ver s rows) := h

/-- Behind a call. -/
theorem call_after (h : SimG w0 S0 M σ a w S μ β) (hd : ∀ d, o.dst = some d → d < σ.n) {fz : List Nat} {r : Res} {u : Upd} (hu : callUpd o.dst fz r = some u) {w' : World} {S' : Stab} {v : Value} (hr : ResRel w (Plus S β σ.objs fz) w' S' r v)
    (h1 : ∀ b off, Plus S β σ.objs fz b off → S' b off) (h2 : ∀ b off, S' b off → Plus S β σ.objs fz b off ∨ w.heap.size ≤ b) (h3 : ∀ b off, S' b off → b < w'.heap.size) (hk : Kept (fun _ => False) w w') :
    Sim w0 S0 M (σ.apply o.dst u) (a.put o.dst v) w' := by
  have hlive : ∀ id o b, look σ.objs id = some o → β id = some b → b < w.heap.size := fun id o b hl hb => ObRel.live hb (h.objs id o hl)
  -- with what was handed in frozen
  have hfz : SimG w0 S0 M { σ with ro := fz ++ σ.ro } a w' S' μ β := (h.freeze fz).world (fun b off hS => cell_of_heap (hk.block b ((h.freeze fz).stab b off hS) (fun x => x)) off) h1
    (fun id o b hl hb => hk.block b (hlive id o b hl hb) (fun x => x)) (fun id o b off hl hb hS => (h2 b off hS).resolve_right (by have := hlive id o b hl hb; omega)) h3
    (fun b off hS => (h2 b off hS).elim .inl (fun hb => .inr (.inl (Nat.le_trans h.kept.size hb)))) (h.kept.trans hk.none)
  -- or as it was
  have hfl : SimG w0 S0 M σ a w' S μ β := h.world (fun b off hS => cell_of_heap (hk.block b (h.stab b off hS) (fun x => x)) off) (fun _ _ x => x)
    (fun id o b hl hb => hk.block b (hlive id o b hl hb) (fun x => x)) (fun _ _ _ _ _ _ x => x) (fun b off hS => Nat.lt_of_lt_of_le (h.stab b off hS) hk.size) (fun _ _ x => .inl x) (h.kept.trans hk.none)
  cases r with
  | imm x =>
    simp only [callUpd, Option.some.injEq] at hu
    subst hu
    cases hf : x.flat with
    | true =>
      simp only [if_true]
      exact ⟨S, μ, β, hfl.putD hd (IV.flat_rep x v hf hr)⟩
    | false =>
      simp only [Bool.false_eq_true, if_false]
      exact ⟨S', μ, β, hfz.putD (σ := { σ with ro := fz ++ σ.ro }) hd hr⟩
  | own s rows =>
    simp only [callUpd] at hu
    split at hu
    · next d hdst =>
      obtain rfl := Option.some.inj hu
      obtain ⟨blk, hob, hblk⟩ := hr
      rw [hdst]
      have hv : ∀ (σ' : St), SVRel w' S' (fun id => if id = d then v else μ id) (eraseO d (put σ'.objs d (.arr 0 s rows))) (.own d 0) v := by
        intro σ' cv s' rows' hl
        rw [look_eraseO, look_put_self] at hl
        simp only [Option.map_some, Ob.erase, Option.some.injEq, Ob.arr.injEq] at hl
        obtain ⟨rfl, _, _⟩ := hl
        exact ⟨Nat.le_refl _, fun _ => by simp⟩
      cases hf : flatRows rows with
      | true =>
        simp only [if_true]
        have hob' : ObRel w' S μ σ.objs blk v (.arr 0 s rows) := by
          rcases hob with hob | ⟨b, cap, vs, e, fr, k1, k2, k3, k4, k5, k6, k7, k8⟩
          · exact .inl hob
          · exact .inr ⟨b, cap, vs, e, fr, k1, k2, k3, k4, k5, k6, k7, flats_ones _ _ (flatRows_flatten hf) k8⟩
        have := hfl.create' d (hd d hdst) (.arr 0 s rows) blk v (Kept.refl _ _) (fun b hb => by
          obtain ⟨k1, k2⟩ := hblk b hb
          refine ⟨Nat.le_trans h.kept.size k1, fun off hS => ?_, fun id o hl hb' => ?_⟩
          · have := h.stab b off hS; omega
          · have := hlive id o b hl hb'; omega) hob'
        exact ⟨S, _, _, this.put (hd d hdst) (hv σ)⟩
      | false =>
        simp only [Bool.false_eq_true, if_false]
        have := hfz.create' d (hd d hdst) (.arr 0 s rows) blk v (Kept.refl _ _) (fun b hb => by
          obtain ⟨k1, k2⟩ := hblk b hb
          refine ⟨Nat.le_trans h.kept.size k1, k2, fun id o hl hb' => ?_⟩
          have := hlive id o b hl hb'; omega) hob
        exact ⟨S', _, _, this.put (hd d hdst) (hv { σ with ro := fz ++ σ.ro })⟩
    · simp at hu

/-- A call of a function value. -/
theorem call_wp (h : SimG w0 S0 M σ a w S μ β) (hd : ∀ d, o.dst = some d → d < σ.n) {c : Call} {f : Operand} (ho : o.op = .call c) (hcl : c.callee = .value f) {fv : SV} (hfv : SVRel w S μ σ.objs fv (a.eval f)) {args : List Opd} (hargs : compOpds c.args.toList = some args)
    {k : FuncId} {ivs : List IV} {fz : List Nat} (hca : callArgs σ fv args = some (k, ivs, fz)) {r : Res} (hF : FnR σ.gl P k ivs r) {u : Upd} (hu : callUpd o.dst fz r = some u) {next : Act → World → Prop} {Q : Exit → Act → World → Prop}
    (hn : ∀ v w', Sim w0 S0 M (σ.apply o.dst u) (a.put o.dst v) w' → next (a.put o.dst v) w') : o.wp P a w next Q := by
  unfold callArgs at hca
  split at hca
  · next k' caps f1 ivs' f2 h1 h2 =>
    simp only [Option.some.injEq, Prod.mk.injEq] at hca
    obtain ⟨rfl, rfl, rfl⟩ := hca
    have hfr := toIV_sound (fz' := f1 ++ f2) h h1 (fun i hi => List.mem_append_left _ hi) hfv
    have har := toIVs_sound (fz' := f1 ++ f2) h h2 (fun i hi => List.mem_append_right _ hi) (opds_sound h hargs)
    obtain ⟨caps', hev, hcaps⟩ := hfr
    obtain ⟨⟨fn, hfn, hname, hbody⟩, hcalls⟩ := hF
    have hrun : (execOp a.eval o).run P w = .ok (.enter k' (c.args.map a.eval ++ caps')) w := by
      simp only [execOp, ho, resolve, hcl, hev, Deferred.ofValue, Sem.run_bind, Sem.run_pure, Result.andThen_ok, invoke, callFunc, run_program, hfn]
      rw [if_neg (by simpa using hname), if_neg (by cases hb : fn.body <;> simp_all)]
      simp
    unfold Oper.wp
    rw [hrun, Oper.upon_enter]
    have hvals : c.args.map a.eval ++ caps' = ((c.args.toList.map a.eval) ++ caps'.toList).toArray := by
      apply Array.toList_inj.1; simp
    rw [hvals]
    refine (hcalls w (Plus S β σ.objs (f1 ++ f2)) _ (h.freeze (f1 ++ f2)).stab (RepList.append har hcaps) (h.freeze (f1 ++ f2)).glob).mono ?_
    rintro e w' ⟨v, S', rfl, hr, g1, g2, g3, hk⟩
    exact hn v w' (call_after h hd hu hr g1 g2 g3 hk)
  · simp at hca

theorem compCall_value {c : Call} {vo : VOp} (hc : compCall P c = some vo) :
    (∀ f args, vo = .call f args → c.callee = .value (.func f) ∧ compOpds c.args.toList = some args) ∧
    (∀ f' args, vo = .callV f' args → ∃ f, c.callee = .value f ∧ compOpd f = some f' ∧ compOpds c.args.toList = some args) := by
  unfold compCall at hc
  split at hc
  · next f hf =>
    split at hc
    · split at hc
      · simp at hc
      · simp only [Option.map_eq_some_iff] at hc
        obtain ⟨y, hy, rfl⟩ := hc
        refine ⟨fun f' args e => ?_, fun f' args e => by simp at e⟩
        simp only [VOp.call.injEq] at e
        obtain ⟨rfl, rfl⟩ := e
        exact ⟨hf, hy⟩
    · simp at hc
  · next f _ hf =>
    split at hc
    · next u vs hu hv =>
      obtain rfl := Option.some.inj hc
      refine ⟨fun f' args e => by simp at e, fun f' args e => ?_⟩
      simp only [VOp.callV.injEq] at e
      obtain ⟨rfl, rfl⟩ := e
      exact ⟨f, hf, hu, hv⟩
    · simp at hc
  all_goals
    (repeat' split at hc) <;> first
      | (simp at hc; done)
      | (obtain rfl := Option.some.inj hc; exact ⟨fun _ _ e => by simp at e, fun _ _ e => by simp at e⟩)
      | (simp only [Option.map_eq_some_iff] at hc; obtain ⟨_, _, rfl⟩ := hc; exact ⟨fun _ _ e => by simp at e, fun _ _ e => by simp at e⟩)

theorem compOp_call {op : Op} {vo : VOp} (hc : compOp P op = some vo) (hv : (∃ f args, vo = .call f args) ∨ (∃ f args, vo = .callV f args)) : ∃ c, op = .call c ∧ compCall P c = some vo := by
  cases op with
  | call c => exact ⟨c, rfl, hc⟩
  | _ =>
    exfalso
    unfold compOp at hc
    rcases hv with ⟨f, args, rfl⟩ | ⟨f, args, rfl⟩
    all_goals
      first
        | (simp at hc; done)
        | ((repeat' split at hc) <;> (simp at hc; done))
        | (simp only [compFn, compBin, compEq] at hc; (repeat' split at hc) <;> (simp at hc; done))

/-- ONE OPERATION. -/
theorem op_sound (h : Sim w0 S0 M σ a w) (hd : ∀ d, o.dst = some d → d < σ.n) {vo : VOp} (hc : compOp P o.op = some vo) {u : Upd} (hu : OpRel P σ o.dst u vo) {next : Act → World → Prop} {Q : Exit → Act → World → Prop}
    (hn : ∀ v w', Sim w0 S0 M (σ.apply o.dst u) (a.put o.dst v) w' → next (a.put o.dst v) w') : o.wp P a w next Q := by
  obtain ⟨S, μ, β, h⟩ := h
  have plain : ev σ o.dst vo = some u → u.side → o.wp P a w next Q := by
    intro h1 h2
    obtain ⟨n, v, w', hrun, hv, hs⟩ := ev_sound h hd hc h1 h2
    unfold Oper.wp
    rw [hrun]
    rcases hv with rfl | ⟨rfl, rfl⟩
    · rw [Oper.upon_value]; exact hn v w' hs
    · rw [Oper.upon_skip]; exact hn _ w' hs
  cases vo
  case call f args =>
    obtain ⟨k, ivs, fz, r, h1, h2, h3⟩ := hu
    obtain ⟨c, ho, hcc⟩ := compOp_call hc (.inl ⟨_, _, rfl⟩)
    obtain ⟨hcl, hargs⟩ := (compCall_value hcc).1 _ _ rfl
    exact call_wp h hd ho hcl (fv := .val (.fn f [])) ⟨#[], rfl, rfl⟩ hargs h1 h2 h3 hn
  case callV f args =>
    obtain ⟨k, ivs, fz, r, h1, h2, h3⟩ := hu
    obtain ⟨c, ho, hcc⟩ := compOp_call hc (.inr ⟨_, _, rfl⟩)
    obtain ⟨f', hcl, hf, hargs⟩ := (compCall_value hcc).2 _ _ rfl
    exact call_wp h hd ho hcl (opd_sound h hf) hargs h1 h2 h3 hn
  all_goals exact plain hu.1 hu.2

end
end Go.Vs
