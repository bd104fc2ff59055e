/- Value semantics, part 17: regions, drawn or not, hold what the evaluator says. No conditions. -/
import Derived.Test.YtjfleklkloohgaaVs16
set_option linter.unusedVariables false
set_option linter.unusedSimpArgs false
namespace Go.Vs

section
variable {P : Program} {w0 : World} {S0 : Stab} {M : Ctx}

theorem Sim.congr {σ σ' : St} {a : Act} {w : World} (hq : St.Eq σ σ') (h : Sim w0 S0 M σ a w) : Sim w0 S0 M σ' a w := by
  obtain ⟨S, μ, β, h⟩ := h
  exact ⟨S, μ, β, h.drop hq.n hq.gl (fun i _ _ hi => (hq.ro i).2 hi) (fun k => .inr (hq.env k)) (fun id o ho => by rw [← hq.objs]; exact ho)⟩

theorem compOpers_get {ops : Array Oper} : ∀ {l : List Oper} {vs : List VOper}, compOpers P ops l = some vs → vs.length = l.length ∧ ∀ (i : Nat) (o : Oper), l[i]? = some o → ∃ v, vs[i]? = some v ∧ compOper P ops o = some v
  | [], vs, h => by
    simp only [compOpers, Option.some.injEq] at h
    subst h
    exact ⟨rfl, by simp⟩
  | o :: r, vs, h => by
    simp only [compOpers] at h
    split at h
    · next v vs' h1 h2 =>
      obtain rfl := Option.some.inj h
      obtain ⟨k1, k2⟩ := compOpers_get h2
      refine ⟨by simp [k1], fun i o' ho => ?_⟩
      cases i with
      | zero => simp at ho; subst ho; exact ⟨v, rfl, h1⟩
      | succ i => simpa using k2 i o' (by simpa using ho)
    · simp at h

theorem compOper_parts {ops : Array Oper} {o : Oper} {v : VOper} (h : compOper P ops o = some v) : v.dst = o.dst ∧ compOp P o.op = some v.op ∧ compGuard ops o.guard = some v.guard := by
  unfold compOper at h
  split at h
  · next x g h1 h2 =>
    obtain rfl := Option.some.inj h
    exact ⟨rfl, h1, h2⟩
  · simp at h

theorem yielded_gval {ops : Array Oper} {j d : Nat} (hd : (ops[j]?).bind (·.dst) = some d) {σ : St} {a : Act} {w : World} (h : Sim w0 S0 M σ a w) {c : Option Bool} (hc : gval (getE σ.env d) = some c) : yielded ops a.tmps j = c := by
  obtain ⟨S, μ, β, h'⟩ := h
  have hrel := h'.env d
  unfold gval at hc
  split at hc
  · next c' he =>
    rw [he] at hrel
    obtain rfl := Option.some.inj hc
    have hrel : a.tmps.getD d Go.undef = .bool c' := hrel
    have ht : a.tmps[d]? = some (.bool c') := by
      rcases Nat.lt_or_ge d a.tmps.size with hh | hh
      · simp [hh] at hrel ⊢; exact hrel
      · rw [Array.getD, dif_neg (by omega)] at hrel
        simp [Go.undef] at hrel
    unfold yielded
    rw [hd, Option.bind_some, ht]
  · next he =>
    rw [he] at hrel
    obtain rfl := Option.some.inj hc
    have hrel : ∃ vs, a.tmps.getD d Go.undef = .tuple vs ∧ RepList w S [] vs.toList := hrel
    obtain ⟨vs, hrel, _⟩ := hrel
    unfold yielded
    rw [hd, Option.bind_some]
    rcases Nat.lt_or_ge d a.tmps.size with hh | hh
    · have ht : a.tmps[d]? = some (.tuple vs) := by simp [hh] at hrel ⊢; exact hrel
      rw [ht]
    · rw [Array.getElem?_eq_none hh]
  · simp at hc

/-- One operation, in a region. -/
theorem step_sound {ops : Array Oper} {i : Nat} {o : Oper} {v : VOper} (ho : ops[i]? = some o) (hv : compOper P ops o = some v) {σ : St} {a : Act} {w : World} (h : Sim w0 S0 M σ a w) (hd : ∀ d, v.dst = some d → d < σ.n) {e : Eff} (hs : Step1 P σ v e)
    {Q : Exit → Act → World → Prop} {K : Act → World → Prop} (hK : ∀ a' w', Sim w0 S0 M (σ.apply e.dst e.u) a' w' → K a' w') : wpOp P ops Q i K a w := by
  obtain ⟨hdst, hop, hg⟩ := compOper_parts hv
  have run : Act1 P σ v e → o.wp P a w K Q := by
    rintro ⟨h1, h2, h3⟩
    refine op_sound h (fun d hd' => hd d (by rw [hdst]; exact hd')) hop (u := e.u) (by rw [← hdst]; exact h1) (fun val w' hs' => hK _ _ ?_)
    rw [h3, hdst]
    exact hs'
  unfold wpOp
  rw [ho]
  dsimp only
  cases hgo : o.guard with
  | none =>
    have : v.guard = none := by rw [hgo] at hg; simpa [compGuard] using hg.symm
    unfold Step1 at hs
    rw [this] at hs
    have hw : Region.wanted o (yielded ops a.tmps) = true := by simp [Region.wanted, hgo]
    rw [if_pos hw]
    exact .inl (run hs)
  | some p =>
    obtain ⟨j, b⟩ := p
    rw [hgo] at hg
    simp only [compGuard] at hg
    split at hg
    · next d hd' =>
      have hvg : v.guard = some (d, b) := by simpa using hg.symm
      unfold Step1 at hs
      rw [hvg] at hs
      obtain ⟨c, hc, hcase⟩ := hs
      have hy : yielded ops a.tmps j = c := yielded_gval hd' h hc
      have hw : Region.wanted o (yielded ops a.tmps) = (c == some b) := by simp [Region.wanted, hgo, hy]
      rw [hw]
      rcases hcase with ⟨hcb, hact⟩ | ⟨hcb, he⟩
      · rw [if_pos (by simpa using hcb)]
        exact .inl (run hact)
      · rw [if_neg (by simpa using hcb)]
        subst he
        refine hK _ _ ?_
        obtain ⟨S, μ, β, h'⟩ := h
        rw [← hdst]
        exact ⟨S, μ, β, h'.putD (sv := .val (.tuple [])) hd ⟨#[], rfl, rfl⟩⟩
    · simp at hg

/-- A region in the order of the text. -/
theorem region_text {ops : Array Oper} {vs : List VOper} (hc : compOpers P ops ops.toList = some vs) {σ : St} {a : Act} {w : World} (h : Sim w0 S0 M σ a w) (hd : ∀ v ∈ vs, ∀ d, v.dst = some d → d < σ.n) {es : List Eff} {σf : St} (hs : Steps1 P vs σ es σf)
    {Q : Exit → Act → World → Prop} (hQ : ∀ a' w', Sim w0 S0 M σf a' w' → Q .normal a' w') : wpOps P ops Q (List.range ops.size) a w := by
  obtain ⟨hlen, hget⟩ := compOpers_get hc
  have key : ∀ (l : List VOper) (k : Nat) (σ : St) (es : List Eff) (a : Act) (w : World), (∀ i, l[i]? = vs[k + i]?) → Sim w0 S0 M σ a w → (∀ v ∈ l, ∀ d, v.dst = some d → d < σ.n) → Steps1 P l σ es σf → wpOps P ops Q (List.range' k l.length) a w := by
    intro l
    induction l with
    | nil =>
      intro k σ es a w _ h _ hs
      obtain ⟨_, rfl⟩ := hs
      exact hQ a w h
    | cons v r ih =>
      intro k σ es a w hl h hd hs
      obtain ⟨e, es', _, h1, h2⟩ := hs
      have hv : vs[k]? = some v := by simpa using (hl 0).symm
      have hk : k < ops.toList.length := by
        rw [← hlen]
        rcases Nat.lt_or_ge k vs.length with hh | hh
        · exact hh
        · simp [List.getElem?_eq_none hh] at hv
      obtain ⟨v', hv', hcv⟩ := hget k ops.toList[k] (List.getElem?_eq_getElem hk)
      obtain rfl : v' = v := by rw [hv] at hv'; exact (Option.some.inj hv').symm
      simp only [List.length_cons, List.range'_succ]
      rw [wpOps_cons]
      refine step_sound (o := ops.toList[k]) (by rw [← Array.getElem?_toList]; exact List.getElem?_eq_getElem hk) hcv h (hd v' (by simp)) h1 (fun a' w' h' => ?_)
      refine ih (k + 1) _ es' a' w' (fun i => by have := hl (i + 1); simpa [Nat.add_assoc, Nat.add_comm 1 i] using this) h' (fun x hx d hxd => by rw [apply_n]; exact hd x (List.mem_cons_of_mem _ hx) d hxd) h2
  have := key vs 0 σ es a w (by simp) h hd hs
  rw [List.range_eq_range', show ops.size = vs.length by rw [hlen]; simp]
  exact this

def tmpO : Opd → Option Nat
  | .tmp t => some t
  | _ => none
def tmpR : Operand → Option Nat
  | .tmp t => some t
  | _ => none
theorem tmp_eq {x : Operand} {y : Opd} (h : compOpd x = some y) : tmpR x = tmpO y := by
  cases x with
  | tmp t => simp only [compOpd, Option.some.injEq] at h; subst h; rfl
  | const v => simp only [compOpd, Option.map_eq_some_iff] at h; obtain ⟨s, _, rfl⟩ := h; rfl
  | global g => simp only [compOpd, Option.some.injEq] at h; subst h; rfl
  | func f => simp only [compOpd, Option.some.injEq] at h; subst h; rfl
theorem tmps_eq : ∀ {xs : List Operand} {ys : List Opd}, compOpds xs = some ys → ∀ y ∈ ys, ∃ x ∈ xs, tmpR x = tmpO y
  | [], ys, h => by simp only [compOpds, Option.some.injEq] at h; subst h; simp
  | x :: r, ys, h => by
    simp only [compOpds] at h
    split at h
    · next u us h1 h2 =>
      obtain rfl := Option.some.inj h
      intro y hy
      rcases List.mem_cons.1 hy with rfl | hy
      · exact ⟨x, by simp, tmp_eq h1⟩
      · obtain ⟨z, hz, he⟩ := tmps_eq h2 y hy
        exact ⟨z, List.mem_cons_of_mem _ hz, he⟩
    · simp at h
theorem opt_eq {x : Option Operand} {y : Option Opd} (h : compOpt x = some y) : ∀ z ∈ y.toList, ∃ u ∈ x.toList, tmpR u = tmpO z := by
  cases x with
  | none => simp only [compOpt, Option.some.injEq] at h; subst h; simp
  | some x =>
    simp only [compOpt, Option.map_eq_some_iff] at h
    obtain ⟨z, h1, rfl⟩ := h
    intro u hu
    simp only [Option.toList_some, List.mem_singleton] at hu
    subst hu
    exact ⟨x, by simp, tmp_eq h1⟩
theorem parts_eq {place : Nat → Option (Nat × Nat)} : ∀ {xs : List (Nat × Operand)} {ys : List (Nat × Nat × Opd)}, compParts place xs = some ys → ∀ y ∈ ys.map (·.2.2), ∃ x ∈ xs.map (·.2), tmpR x = tmpO y
  | [], ys, h => by simp only [compParts, Option.some.injEq] at h; subst h; simp
  | (i, x) :: r, ys, h => by
    simp only [compParts] at h
    split at h
    · next o s u us _ h1 h2 =>
      obtain rfl := Option.some.inj h
      intro y hy
      simp only [List.map_cons, List.mem_cons] at hy
      rcases hy with rfl | hy
      · exact ⟨x, by simp, tmp_eq h1⟩
      · obtain ⟨z, hz, he⟩ := parts_eq h2 y hy
        exact ⟨z, by simp only [List.map_cons]; exact List.mem_cons_of_mem _ hz, he⟩
    · simp at h

theorem one_opd {x : Operand} {x' : Opd} (h : compOpd x = some x') {l : List Operand} (hx : x ∈ l) : ∀ y ∈ [x'], ∃ z ∈ l, tmpR z = tmpO y := by
  intro y hy
  simp only [List.mem_singleton] at hy
  subst hy
  exact ⟨x, hx, tmp_eq h⟩
theorem two_opd {x z : Operand} {x' z' : Opd} (h : compOpd x = some x') (k : compOpd z = some z') {l : List Operand} (hx : x ∈ l) (hz : z ∈ l) : ∀ y ∈ [x', z'], ∃ z ∈ l, tmpR z = tmpO y := by
  intro y hy
  simp only [List.mem_cons, List.not_mem_nil, or_false] at hy
  rcases hy with rfl | rfl
  · exact ⟨x, hx, tmp_eq h⟩
  · exact ⟨z, hz, tmp_eq k⟩

theorem compCall_opds {c : Call} {vo : VOp} (h : compCall P c = some vo) : ∀ y ∈ vo.opds, ∃ x ∈ c.operands.toList, tmpR x = tmpO y := by
  have hin : ∀ x, x ∈ c.args.toList → x ∈ c.operands.toList := by
    intro x hx
    simp only [Call.operands, Array.toList_append, List.mem_append]
    exact .inr hx
  unfold compCall at h
  split at h
  · split at h
    · split at h
      · simp at h
      · simp only [Option.map_eq_some_iff] at h
        obtain ⟨ys, hy, rfl⟩ := h
        intro y hyy
        obtain ⟨x, hx, he⟩ := tmps_eq hy y hyy
        exact ⟨x, hin x hx, he⟩
    · simp at h
  · next f _ hf =>
    split at h
    · next u vs hu hv =>
      obtain rfl := Option.some.inj h
      intro y hy
      simp only [VOp.opds, List.mem_cons] at hy
      rcases hy with rfl | hy
      · exact ⟨f, by simp [Call.operands, hf], tmp_eq hu⟩
      · obtain ⟨x, hx, he⟩ := tmps_eq hv y hy
        exact ⟨x, hin x hx, he⟩
    · simp at h
  · split at h
    · next t x _ hal =>
      have hx0 := hin x (by rw [hal]; simp)
      split at h <;> first
        | (simp at h; done)
        | (next hx => obtain rfl := Option.some.inj h; exact one_opd hx hx0)
    · simp at h
  · split at h
    · next x y hal =>
      split at h
      · next x' y' hx hy =>
        obtain rfl := Option.some.inj h
        exact two_opd hx hy (hin x (by rw [hal]; simp)) (hin y (by rw [hal]; simp))
      · simp at h
    · simp at h
  · split at h
    · next x y hal =>
      split at h
      · next x' y' hx hy =>
        obtain rfl := Option.some.inj h
        exact two_opd hx hy (hin x (by rw [hal]; simp)) (hin y (by rw [hal]; simp))
      · simp at h
    · simp at h
  · split at h
    · next t t' x y _ _ hal =>
      split at h
      · next e e' x' y' _ _ hx hy =>
        split at h
        · split at h
          · obtain rfl := Option.some.inj h
            exact two_opd hx hy (hin x (by rw [hal]; simp)) (hin y (by rw [hal]; simp))
          · simp at h
        · simp at h
      · simp at h
    · simp at h
  · split at h
    · next t x _ hal =>
      split at h
      · next e x' _ hx =>
        simp only [Option.map_eq_some_iff] at h
        obtain ⟨_, _, rfl⟩ := h
        exact one_opd hx (hin x (by rw [hal]; simp))
      · simp at h
    · simp at h
  · split at h
    · next t t' x y _ _ hal =>
      split at h
      · next e e' x' y' _ _ hx hy =>
        simp only [Option.map_eq_some_iff] at h
        obtain ⟨_, _, rfl⟩ := h
        exact two_opd hx hy (hin x (by rw [hal]; simp)) (hin y (by rw [hal]; simp))
      · simp at h
    · simp at h
  · simp at h

theorem compOp_opds {op : Op} {vo : VOp} (hc : compOp P op = some vo) : ∀ y ∈ vo.opds, ∃ x ∈ op.operands.toList, tmpR x = tmpO y := by
  cases op with
  | move x => simp only [compOp, Option.map_eq_some_iff] at hc; obtain ⟨y, hy, rfl⟩ := hc; exact one_opd hy (by simp [Op.operands])
  | assign x => simp only [compOp, Option.map_eq_some_iff] at hc; obtain ⟨y, hy, rfl⟩ := hc; exact one_opd hy (by simp [Op.operands])
  | pick c x y =>
    simp only [compOp] at hc
    split at hc
    · next c' x' y' h1 h2 h3 =>
      obtain rfl := Option.some.inj hc
      intro z hz
      simp only [VOp.opds, List.mem_cons, List.not_mem_nil, or_false] at hz
      rcases hz with rfl | rfl | rfl
      · exact ⟨c, by simp [Op.operands], tmp_eq h1⟩
      · exact ⟨x, by simp [Op.operands], tmp_eq h2⟩
      · exact ⟨y, by simp [Op.operands], tmp_eq h3⟩
    · simp at hc
  | alloc t => simp only [compOp, Option.map_eq_some_iff] at hc; obtain ⟨z, hz, rfl⟩ := hc; simp [VOp.opds]
  | box t x => simp only [compOp, Option.map_eq_some_iff] at hc; obtain ⟨y, hy, rfl⟩ := hc; exact one_opd hy (by simp [Op.operands])
  | build t parts =>
    have fin : ∀ {place : Nat → Option (Nat × Nat)} {p : List (Nat × Nat × Opd)} {z : List SV}, compParts place parts.toList = some p → ∀ y ∈ (VOp.build z p).opds, ∃ x ∈ (Op.build t parts).operands.toList, tmpR x = tmpO y := by
      intro place p z hp y hy
      obtain ⟨x, hx, he⟩ := parts_eq hp y hy
      exact ⟨x, by simp only [Op.operands]; exact hx, he⟩
    simp only [compOp] at hc
    split at hc
    · split at hc
      · simp only [Option.map_eq_some_iff] at hc; obtain ⟨p, hp, rfl⟩ := hc; exact fin hp
      · simp at hc
    · split at hc
      · simp only [Option.map_eq_some_iff] at hc; obtain ⟨p, hp, rfl⟩ := hc; exact fin hp
      · simp at hc
    · simp at hc
  | buildSlice t n parts =>
    simp only [compOp] at hc
    split at hc
    · split at hc
      · split at hc
        · simp only [Option.map_eq_some_iff] at hc
          obtain ⟨p, hp, rfl⟩ := hc
          intro y hy
          obtain ⟨x, hx, he⟩ := parts_eq hp y hy
          exact ⟨x, by simp only [Op.operands]; exact hx, he⟩
        · simp at hc
      · simp at hc
    · simp at hc
  | load t x =>
    simp only [compOp] at hc
    split at hc
    · next g x' hg hx => obtain rfl := Option.some.inj hc; exact one_opd hx (by simp [Op.operands])
    · simp at hc
  | store t x y =>
    simp only [compOp] at hc
    split at hc
    · next n x' y' hn hx hy => obtain rfl := Option.some.inj hc; exact two_opd hx hy (by simp [Op.operands]) (by simp [Op.operands])
    · simp at hc
  | nilCheck x => simp only [compOp, Option.map_eq_some_iff] at hc; obtain ⟨y, hy, rfl⟩ := hc; exact one_opd hy (by simp [Op.operands])
  | binOp op t x y t' =>
    simp only [compOp, compBin] at hc
    split at hc
    · next x' y' hx hy =>
      have two : ∀ z ∈ [x', y'], ∃ u ∈ (Op.binOp op t x y t').operands.toList, tmpR u = tmpO z := two_opd hx hy (by simp [Op.operands]) (by simp [Op.operands])
      have one : ∀ z ∈ [x'], ∃ u ∈ (Op.binOp op t x y t').operands.toList, tmpR u = tmpO z := one_opd hx (by simp [Op.operands])
      have eqc : ∀ {neg o}, compEq P neg o t y x' y' = some vo → ∀ z ∈ vo.opds, ∃ u ∈ (Op.binOp op t x y t').operands.toList, tmpR u = tmpO z := by
        intro neg o hc
        unfold compEq at hc
        split at hc
        · obtain rfl := Option.some.inj hc; exact two
        · obtain rfl := Option.some.inj hc; exact two
        · obtain rfl := Option.some.inj hc; exact two
        · split at hc
          · obtain rfl := Option.some.inj hc; exact one
          · simp at hc
        · split at hc
          · obtain rfl := Option.some.inj hc; exact one
          · simp at hc
        · split at hc
          · obtain rfl := Option.some.inj hc; exact one
          · simp at hc
        · split at hc
          · simp at hc
          · simp only [Option.map_eq_some_iff] at hc; obtain ⟨ks, _, rfl⟩ := hc; exact two
        · simp at hc
      split at hc
      · exact eqc hc
      · exact eqc hc
      · obtain rfl := Option.some.inj hc; exact two
    · simp at hc
  | unOp op t x => simp only [compOp, Option.map_eq_some_iff] at hc; obtain ⟨y, hy, rfl⟩ := hc; exact one_opd hy (by simp [Op.operands])
  | convert s t x =>
    simp only [compOp] at hc
    split at hc
    · next hx => obtain rfl := Option.some.inj hc; exact one_opd hx (by simp [Op.operands])
    · next hx => obtain rfl := Option.some.inj hc; exact one_opd hx (by simp [Op.operands])
    · simp at hc
  | makeInterface t x =>
    simp only [compOp] at hc
    split at hc
    · simp at hc
    · simp only [Option.map_eq_some_iff] at hc; obtain ⟨y, hy, rfl⟩ := hc; exact one_opd hy (by simp [Op.operands])
    · simp at hc
  | makeFunc fn first caps =>
    simp only [compOp, compFn] at hc
    split at hc
    · split at hc
      · simp only [Option.map_eq_some_iff] at hc
        obtain ⟨ys, hy, rfl⟩ := hc
        intro y hyy
        obtain ⟨x, hx, he⟩ := tmps_eq hy y hyy
        exact ⟨x, by simp only [Op.operands, Array.toList_append, List.mem_append]; exact .inr hx, he⟩
      · simp at hc
    · simp at hc
  | makeSlice t l c =>
    simp only [compOp] at hc
    split at hc
    · split at hc
      · next hx hy =>
        split at hc
        · obtain rfl := Option.some.inj hc; exact two_opd hx hy (by simp [Op.operands]) (by simp [Op.operands])
        · simp at hc
      · simp at hc
    · simp at hc
  | slice t x lo hi mx =>
    have fin : ∀ {x' lo' hi'} {l : List Opd}, compOpd x = some x' → compOpt lo = some lo' → compOpt hi = some hi' → (∀ z ∈ l, ∃ u ∈ mx.toList, tmpR u = tmpO z) → ∀ z ∈ x' :: (lo'.toList ++ hi'.toList ++ l), ∃ u ∈ (Op.slice t x lo hi mx).operands.toList, tmpR u = tmpO z := by
      intro x' lo' hi' l hx hl hh hm z hz
      simp only [List.mem_cons, List.mem_append] at hz
      rcases hz with rfl | (hz | hz) | hz
      · exact ⟨x, by simp [Op.operands], tmp_eq hx⟩
      · obtain ⟨u, hu, he⟩ := opt_eq hl z hz
        exact ⟨u, by simp [Op.operands] at hu ⊢; simp [hu], he⟩
      · obtain ⟨u, hu, he⟩ := opt_eq hh z hz
        exact ⟨u, by simp [Op.operands] at hu ⊢; simp [hu], he⟩
      · obtain ⟨u, hu, he⟩ := hm z hz
        exact ⟨u, by simp [Op.operands] at hu ⊢; simp [hu], he⟩
    simp only [compOp] at hc
    split at hc
    · next x' l' h' ht hx hl hh hm =>
      obtain rfl := Option.some.inj hc
      have := fin (l := []) hx hl hh (by simp)
      simpa [VOp.opds] using this
    · next e x' l' h' m' ht hx hl hh hm =>
      simp only [Option.map_eq_some_iff] at hc
      obtain ⟨s, _, rfl⟩ := hc
      exact fin hx hl hh (opt_eq hm)
    · simp at hc
  | fieldAddr t x f =>
    simp only [compOp] at hc
    split at hc
    · split at hc
      · next hx =>
        split at hc
        · split at hc
          · simp at hc
          · obtain rfl := Option.some.inj hc; exact one_opd hx (by simp [Op.operands])
        · simp at hc
      · simp at hc
    · simp at hc
  | field t x f =>
    simp only [compOp] at hc
    split at hc
    · split at hc
      · next hx =>
        simp only [Option.map_eq_some_iff] at hc
        obtain ⟨g, _, rfl⟩ := hc
        exact one_opd hx (by simp [Op.operands])
      · simp at hc
    · simp at hc
  | indexAddr t x i =>
    simp only [compOp] at hc
    split at hc
    · split at hc
      · next hx hi => obtain rfl := Option.some.inj hc; exact two_opd hx hi (by simp [Op.operands]) (by simp [Op.operands])
      · simp at hc
    · split at hc
      · next hx hi => obtain rfl := Option.some.inj hc; exact two_opd hx hi (by simp [Op.operands]) (by simp [Op.operands])
      · simp at hc
    · simp at hc
  | index t x i =>
    simp only [compOp] at hc
    split at hc
    · split at hc
      · next hx hi => obtain rfl := Option.some.inj hc; exact two_opd hx hi (by simp [Op.operands]) (by simp [Op.operands])
      · simp at hc
    · split at hc
      · next hx hi => obtain rfl := Option.some.inj hc; exact two_opd hx hi (by simp [Op.operands]) (by simp [Op.operands])
      · simp at hc
    · simp at hc
  | extract x i => simp only [compOp, Option.map_eq_some_iff] at hc; obtain ⟨y, hy, rfl⟩ := hc; exact one_opd hy (by simp [Op.operands])
  | call c => exact compCall_opds hc
  | _ => simp [compOp] at hc

theorem tmpO_filter {l : List Opd} {t : Nat} : t ∈ (l.filterMap fun | .tmp t => some t | _ => none) ↔ ∃ y ∈ l, tmpO y = some t := by
  simp only [List.mem_filterMap]
  constructor
  · rintro ⟨y, hy, h⟩
    exact ⟨y, hy, by cases y <;> simp_all [tmpO]⟩
  · rintro ⟨y, hy, h⟩
    exact ⟨y, hy, by cases y <;> simp_all [tmpO]⟩
theorem tmpR_filter {l : List Operand} {t : Nat} : t ∈ (l.filterMap fun | .tmp t => some t | _ => none) ↔ ∃ y ∈ l, tmpR y = some t := by
  simp only [List.mem_filterMap]
  constructor
  · rintro ⟨y, hy, h⟩
    exact ⟨y, hy, by cases y <;> simp_all [tmpR]⟩
  · rintro ⟨y, hy, h⟩
    exact ⟨y, hy, by cases y <;> simp_all [tmpR]⟩

theorem mem_split_nodup {x : Item1} {l : List Item1} (h : x ∈ l) : ∃ A B, l = A ++ x :: B := List.append_of_mem h

theorem vslots {ops : Array Oper} {o : Oper} {v : VOper} (h : compOper P ops o = some v) : ∀ t, t ∈ v.slots → t ∈ o.looksAt ops := by
  obtain ⟨_, hop, hg⟩ := compOper_parts h
  intro t ht
  unfold VOper.slots at ht
  unfold Oper.looksAt
  rw [List.mem_append] at ht ⊢
  rcases ht with ht | ht
  · left
    obtain ⟨y, hy, he⟩ := tmpO_filter.1 ht
    obtain ⟨x, hx, he'⟩ := compOp_opds hop y hy
    exact tmpR_filter.2 ⟨x, hx, he'.trans he⟩
  · right
    cases hgo : o.guard with
    | none =>
      rw [hgo] at hg
      have : v.guard = none := by simpa [compGuard] using hg.symm
      rw [this] at ht
      simp at ht
    | some p =>
      obtain ⟨j, b⟩ := p
      rw [hgo] at hg
      simp only [compGuard] at hg
      split at hg
      · next d hd =>
        have hvg : v.guard = some (d, b) := by simpa using hg.symm
        rw [hvg] at ht
        simp only [List.mem_singleton] at ht
        subst ht
        simp [hd]
      · simp at hg
end
end Go.Vs
