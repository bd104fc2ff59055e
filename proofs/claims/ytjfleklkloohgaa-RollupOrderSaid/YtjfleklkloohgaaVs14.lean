/- Value semantics, part 14: what an operation does hangs on its operands, and on the objects that it looks at, alone. No conditions. -/
import Derived.Test.YtjfleklkloohgaaVs13
set_option linter.unusedVariables false
set_option linter.unusedSimpArgs false
namespace Go.Vs

def VOp.opds : VOp → List Opd
  | .move x => [x]
  | .pick c a b => [c, a, b]
  | .alloc _ => []
  | .box x => [x]
  | .build _ parts => parts.map (·.2.2)
  | .buildSlice _ _ _ parts => parts.map (·.2.2)
  | .load _ x => [x]
  | .store _ a x => [a, x]
  | .nilCheck x => [x]
  | .bin _ x y => [x, y]
  | .eqB _ x y => [x, y]
  | .eqN _ x => [x]
  | .eqP _ x => [x]
  | .eqS _ x => [x]
  | .eqA _ _ x y => [x, y]
  | .un _ x => [x]
  | .convI _ x => [x]
  | .convS x => [x]
  | .mkIface _ x => [x]
  | .mkFunc _ caps => caps
  | .mkSlice _ _ _ l c => [l, c]
  | .subS x lo hi => x :: (lo.toList ++ hi.toList)
  | .subV _ x lo hi mx => x :: (lo.toList ++ hi.toList ++ mx.toList)
  | .fieldAddr _ x => [x]
  | .field _ _ x => [x]
  | .indexAddr _ x i => [x, i]
  | .indexArr _ _ x i => [x, i]
  | .indexS x i => [x, i]
  | .indexA _ _ _ x i => [x, i]
  | .extract x _ => [x]
  | .lenS x => [x]
  | .lenV x => [x]
  | .lenC _ x => [x]
  | .maxI x y => [x, y]
  | .minI x y => [x, y]
  | .append _ _ x y => [x, y]
  | .clear _ x => [x]
  | .copy _ x y => [x, y]
  | .call _ args => args
  | .callV f args => f :: args
  | .callM _ args => args
  | .callMV f args => f :: args

def SV.refs : SV → List Nat
  | .own id _ => [id]
  | .loc id _ => [id]
  | .eloc id _ _ _ => [id]
  | .view id _ _ _ => [id]
  | _ => []

def callFz (σ : St) : VOp → List Nat
  | .call f args => match callArgs σ (.val (.fn f [])) args with
    | some (_, _, fz) => fz
    | none => []
  | .callV f args => match callArgs σ (val σ f) args with
    | some (_, _, fz) => fz
    | none => []
  | _ => []
def refsL : List SV → List Nat
  | [] => []
  | v :: r => v.refs ++ refsL r
/-- The objects that an operation looks at. -/
def idsOf (σ : St) (op : VOp) (u : Upd) : List Nat :=
  bif op.acts then refsL (op.opds.map (val σ)) ++ u.fz ++ callFz σ op else []

theorem mem_refsL {v : SV} {i : Nat} : ∀ {l : List SV}, v ∈ l → i ∈ v.refs → i ∈ refsL l
  | [], h, _ => by simp at h
  | x :: r, h, hi => by
    simp only [refsL, List.mem_append]
    rcases List.mem_cons.1 h with rfl | h
    · exact .inl hi
    · exact .inr (mem_refsL h hi)

section
variable {objs objs' : List (Nat × Ob)}

theorem okCell_loc {x : SV} (h : ∀ i, i ∈ x.refs → look objs' i = look objs i) : okCell objs' x = okCell objs x := by
  cases x <;> simp only [okCell, SV.refs] at * <;> (try rfl)
  all_goals rw [h _ (by simp)]
theorem cellsOf_loc {x : SV} (h : ∀ i, i ∈ x.refs → look objs' i = look objs i) : cellsOf objs' x = cellsOf objs x := by
  unfold cellsOf
  split
  · rfl
  · rfl
  · rw [okCell_loc h]
theorem toIV0_loc {x : SV} {iv : IV} {fz : List Nat} (hc : toIV0 objs x = some (iv, fz)) (h : ∀ i, i ∈ fz → look objs' i = look objs i) : toIV0 objs' x = some (iv, fz) := by
  cases x <;> simp only [toIV0] at * <;> (try exact hc)
  next id ver =>
    split at hc
    · next cv s rows hl =>
      split at hc
      · next hv =>
        simp only [Option.some.injEq, Prod.mk.injEq] at hc
        obtain ⟨rfl, rfl⟩ := hc
        rw [h id (by simp), hl]
        simp only [hv, if_true]
      · simp at hc
    · simp at hc
  next id ver lo hi =>
    split at hc
    · next cv s rows hl =>
      split at hc
      · next hv =>
        simp only [Option.some.injEq, Prod.mk.injEq] at hc
        obtain ⟨rfl, rfl⟩ := hc
        rw [h id (by simp), hl]
        simp only [hv, if_true]
      · simp at hc
    · simp at hc
theorem toIVs0_loc : ∀ {xs : List SV} {iv : List IV} {fz : List Nat}, toIVs0 objs xs = some (iv, fz) → (∀ i, i ∈ fz → look objs' i = look objs i) → toIVs0 objs' xs = some (iv, fz)
  | [], _, _, hc, _ => hc
  | x :: r, iv, fz, hc, h => by
    simp only [toIVs0] at hc ⊢
    split at hc
    · next v f vs fs h1 h2 =>
      simp only [Option.some.injEq, Prod.mk.injEq] at hc
      obtain ⟨rfl, rfl⟩ := hc
      rw [toIV0_loc h1 (fun i hi => h i (List.mem_append_left _ hi)), toIVs0_loc h2 (fun i hi => h i (List.mem_append_right _ hi))]
    · simp at hc
theorem toIV1_loc {x : SV} {iv : IV} {fz : List Nat} (hc : toIV1 objs x = some (iv, fz)) (h : ∀ i, i ∈ fz → look objs' i = look objs i) : toIV1 objs' x = some (iv, fz) := by
  unfold toIV1 at hc ⊢
  split at hc
  · next id off =>
    split at hc
    · next cells hl =>
      split at hc
      · next vs fs h1 =>
        simp only [Option.some.injEq, Prod.mk.injEq] at hc
        obtain ⟨rfl, rfl⟩ := hc
        simp only [h id (by simp), hl, toIVs0_loc h1 (fun i hi => h i (List.mem_cons_of_mem _ hi))]
      · simp at hc
    · simp at hc
  · exact toIV0_loc hc h
theorem toIVs1_loc : ∀ {xs : List SV} {iv : List IV} {fz : List Nat}, toIVs1 objs xs = some (iv, fz) → (∀ i, i ∈ fz → look objs' i = look objs i) → toIVs1 objs' xs = some (iv, fz)
  | [], _, _, hc, _ => hc
  | x :: r, iv, fz, hc, h => by
    simp only [toIVs1] at hc ⊢
    split at hc
    · next v f vs fs h1 h2 =>
      simp only [Option.some.injEq, Prod.mk.injEq] at hc
      obtain ⟨rfl, rfl⟩ := hc
      rw [toIV1_loc h1 (fun i hi => h i (List.mem_append_left _ hi)), toIVs1_loc h2 (fun i hi => h i (List.mem_append_right _ hi))]
    · simp at hc
theorem toIV_loc {x : SV} {iv : IV} {fz : List Nat} (hc : toIV objs x = some (iv, fz)) (h : ∀ i, i ∈ fz → look objs' i = look objs i) : toIV objs' x = some (iv, fz) := by
  cases x with
  | ifc t x =>
    simp only [toIV] at hc ⊢
    split at hc
    · next v f h1 =>
      simp only [Option.some.injEq, Prod.mk.injEq] at hc
      obtain ⟨rfl, rfl⟩ := hc
      rw [toIV1_loc h1 h]
    · simp at hc
  | agg cells =>
    simp only [toIV] at hc ⊢
    split at hc
    · next vs fs h1 =>
      simp only [Option.some.injEq, Prod.mk.injEq] at hc
      obtain ⟨rfl, rfl⟩ := hc
      rw [toIVs1_loc h1 h]
    · simp at hc
  | clo f caps =>
    simp only [toIV] at hc ⊢
    split at hc
    · next vs fs h1 =>
      simp only [Option.some.injEq, Prod.mk.injEq] at hc
      obtain ⟨rfl, rfl⟩ := hc
      rw [toIVs1_loc h1 h]
    · simp at hc
  | undef => exact toIV1_loc (x := .undef) hc h
  | anyB => exact toIV1_loc (x := .anyB) hc h
  | val v => exact toIV1_loc (x := .val v) hc h
  | nils => exact toIV1_loc (x := .nils) hc h
  | full r => exact toIV1_loc (x := .full r) hc h
  | own a b => exact toIV1_loc (x := .own a b) hc h
  | loc a b => exact toIV1_loc (x := .loc a b) hc h
  | eloc a b c d => exact toIV1_loc (x := .eloc a b c d) hc h
  | view a b c d => exact toIV1_loc (x := .view a b c d) hc h
theorem toIVs_loc : ∀ {xs : List SV} {iv : List IV} {fz : List Nat}, toIVs objs xs = some (iv, fz) → (∀ i, i ∈ fz → look objs' i = look objs i) → toIVs objs' xs = some (iv, fz)
  | [], _, _, hc, _ => hc
  | x :: r, iv, fz, hc, h => by
    simp only [toIVs] at hc ⊢
    split at hc
    · next v f vs fs h1 h2 =>
      simp only [Option.some.injEq, Prod.mk.injEq] at hc
      obtain ⟨rfl, rfl⟩ := hc
      rw [toIV_loc h1 (fun i hi => h i (List.mem_append_left _ hi)), toIVs_loc h2 (fun i hi => h i (List.mem_append_right _ hi))]
    · simp at hc
theorem rowsOf_loc {x : SV} (h : ∀ i, i ∈ x.refs → look objs' i = look objs i) : rowsOf objs' x = rowsOf objs x := by
  cases x with
  | val v => cases v <;> rfl
  | own id ver => simp only [rowsOf, SV.refs] at *; rw [h id (by simp)]
  | view id ver lo hi => simp only [rowsOf, SV.refs] at *; rw [h id (by simp)]
  | _ => rfl
end

section
variable {σ σ' : St}

theorem fillSV_loc : ∀ {parts : List (Nat × Nat × Opd)} {cells : List SV}, (∀ x ∈ parts.map (·.2.2), val σ' x = val σ x) → (∀ i, i ∈ refsL ((parts.map (·.2.2)).map (val σ)) → look σ'.objs i = look σ.objs i) →
    fillSV σ'.objs σ' cells parts = fillSV σ.objs σ cells parts
  | [], _, _, _ => rfl
  | (off, s, x) :: r, cells, hv, hl => by
    simp only [fillSV]
    have h1 : val σ' x = val σ x := hv x (by simp)
    rw [h1, cellsOf_loc (objs := σ.objs) (objs' := σ'.objs) (fun i hi => hl i (by simp only [List.map_cons, refsL, List.mem_append]; exact .inl hi))]
    split
    · next cs _ =>
      split
      · exact fillSV_loc (fun y hy => hv y (by simp only [List.map_cons]; exact List.mem_cons_of_mem _ hy)) (fun i hi => hl i (by simp only [List.map_cons, refsL, List.mem_append]; exact .inr hi))
      · rfl
    · rfl

theorem evLoad_loc {g : Option Nat} {x : SV} (h : ∀ i, i ∈ x.refs → look σ'.objs i = look σ.objs i) : evLoad σ' g x = evLoad σ g x := by
  cases x with
  | val v => cases v <;> rfl
  | loc id off => simp only [evLoad, SV.refs] at *; rw [h _ (by simp)]
  | eloc id ver i off => simp only [evLoad, SV.refs] at *; rw [h _ (by simp)]
  | _ => rfl

theorem evStore_loc {n : Nat} {a x : SV} {u : Upd} (hu : evStore σ n a x = some u) (h1 : ∀ i, i ∈ a.refs → look σ'.objs i = look σ.objs i) (h2 : ∀ i, i ∈ x.refs → look σ'.objs i = look σ.objs i) (h3 : ∀ i, i ∈ u.fz → look σ'.objs i = look σ.objs i)
    (hro : ∀ id o, u.wr = some (id, o) → id ∈ σ'.ro → id ∈ σ.ro) : evStore σ' n a x = some u := by
  unfold evStore at hu ⊢
  rw [cellsOf_loc h2]
  split at hu
  · simp at hu
  · next cs hcs =>
    split at hu
    · next id off =>
      split at hu
      · next cells hl =>
        split at hu
        · simp at hu
        · next hr =>
          obtain rfl := Option.some.inj hu
          simp only [h1 id (by simp [SV.refs]), hl]
          rw [if_neg]
          intro hr'
          exact hr (by simpa using hro id _ rfl (by simpa using hr'))
      · simp at hu
    · next id ver i off =>
      split at hu
      · next cv s rows vs fz hl hv =>
        split at hu
        · simp at hu
        · next hr =>
          split at hu
          · next hver =>
            split at hu
            · next row hrow =>
              obtain rfl := Option.some.inj hu
              simp only [h1 id (by simp [SV.refs]), hl, toIVs1_loc hv h3]
              rw [if_neg]
              · simp only [hver, if_true, hrow]
              · simp only [Bool.or_eq_true, List.contains_iff_mem, not_or] at hr ⊢
                exact ⟨fun hr' => hr.1 (hro id _ rfl hr'), hr.2⟩
            · simp at hu
          · simp at hu
      · simp at hu
    · simp at hu

theorem callArgs_loc {f : SV} {args : List Opd} {k : FuncId} {ivs : List IV} {fz : List Nat} (h : callArgs σ f args = some (k, ivs, fz)) (hv : ∀ x ∈ args, val σ' x = val σ x) (hl : ∀ i, i ∈ fz → look σ'.objs i = look σ.objs i) : callArgs σ' f args = some (k, ivs, fz) := by
  unfold callArgs at h ⊢
  have e : args.map (val σ') = args.map (val σ) := List.map_congr_left hv
  rw [e]
  split at h
  · next k' caps f1 ivs' f2 h1 h2 =>
    simp only [Option.some.injEq, Prod.mk.injEq] at h
    obtain ⟨rfl, rfl, rfl⟩ := h
    rw [toIV_loc h1 (fun i hi => hl i (List.mem_append_left _ hi)), toIVs_loc h2 (fun i hi => hl i (List.mem_append_right _ hi))]
  · simp at h

theorem bound_loc {n : Nat} {x : Option Opd} (h : ∀ y ∈ x.toList, val σ' y = val σ y) : bound σ' n x = bound σ n x := by
  cases x with
  | none => rfl
  | some y => simp only [bound]; rw [h y (by simp)]

theorem ev_loc {dst : Option Nat} {op : VOp} {u : Upd} (hu : ev σ dst op = some u) (hv : ∀ x ∈ op.opds, val σ' x = val σ x) (hl : ∀ i, i ∈ idsOf σ op u → look σ'.objs i = look σ.objs i)
    (hro : ∀ id o, u.wr = some (id, o) → id ∈ σ'.ro → id ∈ σ.ro) : ev σ' dst op = some u := by
  have hr : op.acts = true → ∀ x ∈ op.opds, ∀ i, i ∈ (val σ x).refs → look σ'.objs i = look σ.objs i := by
    intro ha x hx i hi
    refine hl i ?_
    simp only [idsOf, ha, cond_true, List.mem_append]
    exact .inl (.inl (mem_refsL (List.mem_map_of_mem hx) hi))
  have hfz : op.acts = true → ∀ i, i ∈ u.fz → look σ'.objs i = look σ.objs i := by
    intro ha i hi
    refine hl i ?_
    simp only [idsOf, ha, cond_true, List.mem_append]
    exact .inl (.inr hi)
  cases op
  case build zero parts =>
    simp only [ev] at hu ⊢
    rw [fillSV_loc (σ := σ) hv (fun i hi => hl i (by simp only [idsOf, VOp.acts, cond_true, List.mem_append]; exact .inl (.inl hi)))]
    exact hu
  case buildSlice s n zero parts =>
    simp only [ev] at hu ⊢
    rw [fillSV_loc (σ := σ) hv (fun i hi => hl i (by simp only [idsOf, VOp.acts, cond_true, List.mem_append]; exact .inl (.inl hi)))]
    split at hu
    · next d cells hd hf =>
      split at hu
      · next vs fz hiv =>
        obtain rfl := Option.some.inj hu
        simp only [hf, toIVs1_loc hiv (hfz rfl)]
      · simp at hu
    · simp at hu
  case store n a x =>
    simp only [ev] at hu ⊢
    rw [hv a (by simp [VOp.opds]), hv x (by simp [VOp.opds])]
    exact evStore_loc hu (hr rfl a (by simp [VOp.opds])) (hr rfl x (by simp [VOp.opds])) (hfz rfl) hro
  case load g x =>
    simp only [ev] at hu ⊢
    rw [hv x (by simp [VOp.opds]), evLoad_loc (hr rfl x (by simp [VOp.opds]))]
    exact hu
  case box x =>
    simp only [ev] at hu ⊢
    rw [hv x (by simp [VOp.opds]), cellsOf_loc (hr rfl x (by simp [VOp.opds]))]
    exact hu
  case eqS neg x =>
    simp only [ev] at hu ⊢
    rw [hv x (by simp [VOp.opds]), rowsOf_loc (hr rfl x (by simp [VOp.opds]))]
    exact hu
  case lenV x =>
    simp only [ev] at hu ⊢
    have hx := hr rfl x (by simp [VOp.opds])
    rw [hv x (by simp [VOp.opds]), rowsOf_loc hx]
    cases hxx : val σ x with
    | view id ver lo hi =>
      rw [hxx] at hx hu
      simp only [hx id (by simp [SV.refs])]
      exact hu
    | _ => rw [hxx] at hu; exact hu
  case subV s x lo hi mx =>
    simp only [ev] at hu ⊢
    have hx := hr rfl x (by simp [VOp.opds])
    rw [hv x (by simp [VOp.opds]), rowsOf_loc hx]
    have b1 : ∀ n, bound σ' n lo = bound σ n lo := fun n => bound_loc (fun y hy => hv y (by simp only [VOp.opds, List.mem_cons, List.mem_append]; exact .inr (.inl (.inl hy))))
    have b2 : ∀ n, bound σ' n hi = bound σ n hi := fun n => bound_loc (fun y hy => hv y (by simp only [VOp.opds, List.mem_cons, List.mem_append]; exact .inr (.inl (.inr hy))))
    have sub : ∀ a b c d e f, evSub σ' s a b c d e f lo hi mx = evSub σ s a b c d e f lo hi mx := by
      intro a b c d e f
      simp only [evSub, b1, b2]
      cases mx with
      | none => rfl
      | some m =>
        have : val σ' m = val σ m := hv m (by simp [VOp.opds])
        simp only [this]
    cases hxx : val σ x with
    | own id ver =>
      rw [hxx] at hx hu
      simp only [hx id (by simp [SV.refs]), sub]
      exact hu
    | view id ver lo0 hi0 =>
      rw [hxx] at hx hu
      simp only [hx id (by simp [SV.refs]), sub]
      exact hu
    | _ =>
      rw [hxx] at hu
      simp only [b1, b2]
      cases mx with
      | none => exact hu
      | some m =>
        have : val σ' m = val σ m := hv m (by simp [VOp.opds])
        simp only [this]
        exact hu
  case subS x lo hi =>
    simp only [ev] at hu ⊢
    rw [hv x (by simp [VOp.opds])]
    have b1 : ∀ n, bound σ' n lo = bound σ n lo := fun n => bound_loc (fun y hy => hv y (by simp only [VOp.opds, List.mem_cons, List.mem_append]; exact .inr (.inl hy)))
    have b2 : ∀ n, bound σ' n hi = bound σ n hi := fun n => bound_loc (fun y hy => hv y (by simp only [VOp.opds, List.mem_cons, List.mem_append]; exact .inr (.inr hy)))
    simp only [b1, b2]
    exact hu
  case append s bytes x y =>
    simp only [ev] at hu ⊢
    have hx := hr rfl x (by simp [VOp.opds])
    rw [hv x (by simp [VOp.opds]), hv y (by simp [VOp.opds]), rowsOf_loc (hr rfl y (by simp [VOp.opds]))]
    split at hu
    · simp at hu
    · next new rd hrows =>
      cases hxx : val σ x with
      | own id ver =>
        rw [hxx] at hx hu
        simp only [hx id (by simp [SV.refs])]
        exact hu
      | view id ver lo hi =>
        rw [hxx] at hx hu
        simp only [hx id (by simp [SV.refs])]
        simp only at hu
        split at hu
        · next cv s' rows hl =>
          split at hu
          · next hc =>
            simp only [Bool.and_eq_true, Bool.not_eq_true'] at hc
            have hro' : ∀ (ob : Ob), u.wr = some (id, ob) → σ'.ro.contains id = false := by
              intro ob hob
              cases hcc : σ'.ro.contains id with
              | false => rfl
              | true =>
                have h1 := hro id ob hob (by simpa using hcc)
                have h2 : id ∉ σ.ro := by simpa using hc.2
                exact absurd h1 h2
            split at hu
            · split at hu
              · split at hu
                · next hid =>
                  have h3 := hu
                  obtain rfl := Option.some.inj hu
                  rw [if_pos (by simp only [hc.1.1, hc.1.2, hro' _ rfl]; rfl)]
                  simp_all
                · simp at hu
              · simp at hu
            · have h3 := hu
              obtain rfl := Option.some.inj hu
              rw [if_pos (by simp only [hc.1.1, hc.1.2, hro' _ rfl]; rfl)]
              simp_all
          · simp at hu
        · simp at hu
      | _ => rw [hxx] at hu; first | exact hu | (simp at hu; done)
  case clear zero x =>
    simp only [ev] at hu ⊢
    have hx := hr rfl x (by simp [VOp.opds])
    rw [hv x (by simp [VOp.opds])]
    split at hu
    · simp at hu
    · next z hz =>
      cases hxx : val σ x with
      | own id ver =>
        rw [hxx] at hx hu
        simp only [hx id (by simp [SV.refs])]
        simp only at hu
        split at hu
        · next cv s' rows hl =>
          split at hu
          · next hc =>
            simp only [Bool.and_eq_true, Bool.not_eq_true'] at hc
            obtain rfl := Option.some.inj hu
            rw [if_pos]
            have : σ'.ro.contains id = false := by
              cases hcc : σ'.ro.contains id with
              | false => rfl
              | true =>
                have h1 := hro id _ rfl (by simpa using hcc)
                have h2 : id ∉ σ.ro := by simpa using hc.2
                exact absurd h1 h2
            simp only [hc.1, this]; rfl
          · simp at hu
        · simp at hu
      | view id ver lo hi =>
        rw [hxx] at hx hu
        simp only [hx id (by simp [SV.refs])]
        simp only at hu
        split at hu
        · next cv s' rows hl =>
          split at hu
          · next hc =>
            simp only [Bool.and_eq_true, Bool.not_eq_true'] at hc
            obtain rfl := Option.some.inj hu
            rw [if_pos]
            have : σ'.ro.contains id = false := by
              cases hcc : σ'.ro.contains id with
              | false => rfl
              | true =>
                have h1 := hro id _ rfl (by simpa using hcc)
                have h2 : id ∉ σ.ro := by simpa using hc.2
                exact absurd h1 h2
            simp only [hc.1, this]; rfl
          · simp at hu
        · simp at hu
      | _ => rw [hxx] at hu; exact hu
  case copy s x y =>
    simp only [ev] at hu ⊢
    have hx := hr rfl x (by simp [VOp.opds])
    rw [hv x (by simp [VOp.opds]), hv y (by simp [VOp.opds]), rowsOf_loc (hr rfl y (by simp [VOp.opds]))]
    split at hu
    · simp at hu
    · next new rd hrows =>
      cases hxx : val σ x with
      | own id ver =>
        rw [hxx] at hx hu
        simp only [hx id (by simp [SV.refs])]
        simp only at hu
        split at hu
        · next cv s' rows hl =>
          split at hu
          · next hc =>
            simp only [Bool.and_eq_true, Bool.not_eq_true'] at hc
            obtain rfl := Option.some.inj hu
            rw [if_pos]
            have : σ'.ro.contains id = false := by
              cases hcc : σ'.ro.contains id with
              | false => rfl
              | true =>
                have h1 := hro id _ rfl (by simpa using hcc)
                have h2 : id ∉ σ.ro := by simpa using hc.2
                exact absurd h1 h2
            simp only [hc.1, this]; rfl
          · simp at hu
        · simp at hu
      | view id ver lo hi =>
        rw [hxx] at hx hu
        simp only [hx id (by simp [SV.refs])]
        simp only at hu
        split at hu
        · next cv s' rows hl =>
          split at hu
          · next hc =>
            simp only [Bool.and_eq_true, Bool.not_eq_true'] at hc
            obtain rfl := Option.some.inj hu
            rw [if_pos]
            have : σ'.ro.contains id = false := by
              cases hcc : σ'.ro.contains id with
              | false => rfl
              | true =>
                have h1 := hro id _ rfl (by simpa using hcc)
                have h2 : id ∉ σ.ro := by simpa using hc.2
                exact absurd h1 h2
            simp only [hc.1, this]; rfl
          · simp at hu
        · simp at hu
      | _ => rw [hxx] at hu; exact hu
  case nilCheck x =>
    simp only [ev] at hu ⊢
    have hx := hr rfl x (by simp [VOp.opds])
    rw [hv x (by simp [VOp.opds])]
    cases hxx : val σ x with
    | loc id off =>
      rw [hxx] at hx hu
      simp only [hx id (by simp [SV.refs])]
      exact hu
    | val v => rw [hxx] at hu; cases v <;> exact hu
    | _ => rw [hxx] at hu; exact hu
  case eqP neg x =>
    simp only [ev] at hu ⊢
    have hx := hr rfl x (by simp [VOp.opds])
    rw [hv x (by simp [VOp.opds])]
    cases hxx : val σ x with
    | loc id off =>
      rw [hxx] at hx hu
      simp only [hx id (by simp [SV.refs])]
      exact hu
    | val v => rw [hxx] at hu; cases v <;> exact hu
    | _ => rw [hxx] at hu; exact hu
  case fieldAddr off x =>
    simp only [ev] at hu ⊢
    have hx := hr rfl x (by simp [VOp.opds])
    rw [hv x (by simp [VOp.opds])]
    cases hxx : val σ x with
    | loc id o =>
      rw [hxx] at hx hu
      simp only [hx id (by simp [SV.refs])]
      exact hu
    | eloc id ver i o =>
      rw [hxx] at hx hu
      simp only [hx id (by simp [SV.refs])]
      exact hu
    | val v => rw [hxx] at hu; cases v <;> exact hu
    | _ => rw [hxx] at hu; exact hu
  case indexAddr s x i =>
    simp only [ev] at hu ⊢
    have hx := hr rfl x (by simp [VOp.opds])
    rw [hv x (by simp [VOp.opds]), hv i (by simp [VOp.opds])]
    cases hxx : val σ x with
    | own id ver =>
      rw [hxx] at hx hu
      simp only [hx id (by simp [SV.refs])]
      exact hu
    | view id ver lo hi =>
      rw [hxx] at hx hu
      simp only [hx id (by simp [SV.refs])]
      exact hu
    | val v => rw [hxx] at hu; cases v <;> exact hu
    | _ => rw [hxx] at hu; exact hu
  case indexArr len s x i =>
    simp only [ev] at hu ⊢
    have hx := hr rfl x (by simp [VOp.opds])
    rw [hv x (by simp [VOp.opds]), hv i (by simp [VOp.opds])]
    cases hxx : val σ x with
    | loc id o =>
      rw [hxx] at hx hu
      cases hii : val σ i with
      | val iv =>
        rw [hii] at hu
        cases iv with
        | int k n =>
          simp only [hx id (by simp [SV.refs])]
          exact hu
        | _ => simp at hu
      | _ => rw [hii] at hu; simp at hu
    | val v =>
      rw [hxx] at hu
      generalize val σ i = y at hu ⊢
      cases y with
      | val iv => cases v <;> cases iv <;> exact hu
      | _ => cases v <;> exact hu
    | _ => rw [hxx] at hu; exact hu
  case mkFunc f caps =>
    simp only [ev] at hu ⊢
    have e : caps.map (val σ') = caps.map (val σ) := List.map_congr_left hv
    rw [e]
    exact hu
  case call => simp [ev] at hu
  case callV => simp [ev] at hu
  case alloc => exact hu
  case lenC => exact hu
  case un op x =>
    simp only [ev] at hu ⊢
    rw [hv x (by simp [VOp.opds])]
    exact hu
  case move x => simp only [ev] at hu ⊢; rw [hv x (by simp [VOp.opds])]; exact hu
  case pick c x y => simp only [ev] at hu ⊢; rw [hv c (by simp [VOp.opds]), hv x (by simp [VOp.opds]), hv y (by simp [VOp.opds])]; exact hu
  case bin op x y => simp only [ev] at hu ⊢; rw [hv x (by simp [VOp.opds]), hv y (by simp [VOp.opds])]; exact hu
  case eqB neg x y => simp only [ev] at hu ⊢; rw [hv x (by simp [VOp.opds]), hv y (by simp [VOp.opds])]; exact hu
  case eqN neg x => simp only [ev] at hu ⊢; rw [hv x (by simp [VOp.opds])]; exact hu
  case eqA neg ks x y => simp only [ev] at hu ⊢; rw [hv x (by simp [VOp.opds]), hv y (by simp [VOp.opds])]; exact hu
  case convI k x => simp only [ev] at hu ⊢; rw [hv x (by simp [VOp.opds])]; exact hu
  case convS x => simp only [ev] at hu ⊢; rw [hv x (by simp [VOp.opds])]; exact hu
  case mkIface t x => simp only [ev] at hu ⊢; rw [hv x (by simp [VOp.opds])]; exact hu
  case mkSlice s b z l c => simp only [ev] at hu ⊢; rw [hv l (by simp [VOp.opds]), hv c (by simp [VOp.opds])]; exact hu
  case field off g x => simp only [ev] at hu ⊢; rw [hv x (by simp [VOp.opds])]; exact hu
  case indexS x i => simp only [ev] at hu ⊢; rw [hv x (by simp [VOp.opds]), hv i (by simp [VOp.opds])]; exact hu
  case indexA len s g x i => simp only [ev] at hu ⊢; rw [hv x (by simp [VOp.opds]), hv i (by simp [VOp.opds])]; exact hu
  case extract x i => simp only [ev] at hu ⊢; rw [hv x (by simp [VOp.opds])]; exact hu
  case lenS x => simp only [ev] at hu ⊢; rw [hv x (by simp [VOp.opds])]; exact hu
  case maxI x y => simp only [ev] at hu ⊢; rw [hv x (by simp [VOp.opds]), hv y (by simp [VOp.opds])]; exact hu
  case minI x y => simp only [ev] at hu ⊢; rw [hv x (by simp [VOp.opds]), hv y (by simp [VOp.opds])]; exact hu
  case callM f args => simp [ev] at hu
  case callMV f args => simp [ev] at hu

theorem opRel_loc {P : Program} {dst : Option Nat} {op : VOp} {u : Upd} (hgl : σ'.gl = σ.gl) (hu : OpRel P σ dst u op) (hv : ∀ x ∈ op.opds, val σ' x = val σ x) (hl : ∀ i, i ∈ idsOf σ op u → look σ'.objs i = look σ.objs i)
    (hro : ∀ id o, u.wr = some (id, o) → id ∈ σ'.ro → id ∈ σ.ro) : OpRel P σ' dst u op ∧ idsOf σ' op u = idsOf σ op u := by
  have heq : op.opds.map (val σ') = op.opds.map (val σ) := List.map_congr_left hv
  cases op
  case call f args =>
    obtain ⟨k, ivs, fz, r, h1, h2, h3⟩ := hu
    have h4 := callArgs_loc (σ' := σ') h1 hv (fun i hi => hl i (by simp only [idsOf, VOp.acts, cond_true, List.mem_append, callFz, h1]; exact .inr hi))
    refine ⟨⟨k, ivs, fz, r, h4, by rw [hgl]; exact h2, h3⟩, ?_⟩
    simp only [idsOf, heq, callFz, h1, h4]
  case callV f args =>
    obtain ⟨k, ivs, fz, r, h1, h2, h3⟩ := hu
    have hf : val σ' f = val σ f := hv f (by simp [VOp.opds])
    have h4 := callArgs_loc (σ' := σ') h1 (fun x hx => hv x (by simp [VOp.opds, hx])) (fun i hi => hl i (by simp only [idsOf, VOp.acts, cond_true, List.mem_append, callFz, h1]; exact .inr hi))
    refine ⟨⟨k, ivs, fz, r, by rw [hf]; exact h4, by rw [hgl]; exact h2, h3⟩, ?_⟩
    simp only [idsOf, heq, callFz, h1, hf, h4]
  all_goals exact ⟨⟨ev_loc hu.1 hv hl hro, hu.2⟩, by simp only [idsOf, heq, callFz]⟩

/-- What writes, and what makes, by its kind. -/
theorem opRel_kind {P : Program} {dst : Option Nat} {op : VOp} {u : Upd} (hu : OpRel P σ dst u op) : (u.wr ≠ none → op.writes = true) ∧ (u.new ≠ none → op.makes = true) := by
  cases op
  case call f args => 
    obtain ⟨k, ivs, fz, r, h1, h2, h3⟩ := hu
    refine ⟨fun h => ?_, fun _ => rfl⟩
    exfalso; apply h
    unfold callUpd at h3
    split at h3
    · obtain rfl := Option.some.inj h3; rfl
    · split at h3
      · obtain rfl := Option.some.inj h3; rfl
      · simp at h3
  case callV f args =>
    obtain ⟨k, ivs, fz, r, h1, h2, h3⟩ := hu
    refine ⟨fun h => ?_, fun _ => rfl⟩
    exfalso; apply h
    unfold callUpd at h3
    split at h3
    · obtain rfl := Option.some.inj h3; rfl
    · split at h3
      · obtain rfl := Option.some.inj h3; rfl
      · simp at h3
  case append => 
    exact ⟨fun _ => rfl, fun _ => rfl⟩
  case store n a x =>
    refine ⟨fun _ => rfl, fun h => ?_⟩
    exfalso; apply h
    have hu := hu.1
    simp only [ev, evStore] at hu
    (repeat' split at hu) <;> first | (simp at hu; done) | (obtain rfl := Option.some.inj hu; rfl)
  case alloc => 
    refine ⟨fun h => ?_, fun _ => rfl⟩
    exfalso; apply h
    have hu := hu.1
    simp only [ev] at hu
    (repeat' split at hu) <;> first | (simp at hu; done) | (obtain rfl := Option.some.inj hu; rfl)
  case box =>
    refine ⟨fun h => ?_, fun _ => rfl⟩
    exfalso; apply h
    have hu := hu.1
    simp only [ev] at hu
    (repeat' split at hu) <;> first | (simp at hu; done) | (obtain rfl := Option.some.inj hu; rfl)
  case buildSlice =>
    refine ⟨fun h => ?_, fun _ => rfl⟩
    exfalso; apply h
    have hu := hu.1
    simp only [ev] at hu
    (repeat' split at hu) <;> first | (simp at hu; done) | (obtain rfl := Option.some.inj hu; rfl)
  case mkSlice =>
    refine ⟨fun h => ?_, fun _ => rfl⟩
    exfalso; apply h
    have hu := hu.1
    simp only [ev] at hu
    (repeat' split at hu) <;> first | (simp at hu; done) | (obtain rfl := Option.some.inj hu; rfl)
  case clear =>
    refine ⟨fun _ => rfl, fun h => ?_⟩
    exfalso; apply h
    have hu := hu.1
    simp only [ev] at hu
    (repeat' split at hu) <;> first | (simp at hu; done) | (obtain rfl := Option.some.inj hu; rfl)
  case copy =>
    refine ⟨fun _ => rfl, fun h => ?_⟩
    exfalso; apply h
    have hu := hu.1
    simp only [ev] at hu
    (repeat' split at hu) <;> first | (simp at hu; done) | (obtain rfl := Option.some.inj hu; rfl)
  all_goals
    have hu := hu.1
    refine ⟨fun h => ?_, fun h => ?_⟩ <;> exfalso <;> apply h
    all_goals
      simp only [ev, evLoad, evPart, evSub, binI, binS] at hu
      first
        | (obtain rfl := Option.some.inj hu; rfl)
        | ((repeat' split at hu) <;> first | (simp at hu; done) | (obtain rfl := Option.some.inj hu; rfl))

end
end Go.Vs
