/- Value semantics, part 8: operations that take values apart, and loads, hold what the evaluator says. No conditions. -/
import Derived.Test.YtcohndmpimkjpaaGreatDoorBAq
set_option linter.unusedVariables false
set_option linter.unusedSimpArgs false
set_option linter.unusedVariables false
set_option linter.unusedSimpArgs false
namespace Go.Vs

theorem add_none (b o n : Nat) : (⟨b, o, none⟩ : Addr).add n = ⟨b, o + n, none⟩ := by
  unfold Addr.add
  split
  · next h => subst h; rfl
  · rfl

section
variable {P : Program} {w0 w : World} {S0 S : Stab} {M : Ctx} {σ : St} {a : Act} {μ : Nat → Value} {β : Nat → Option Nat} {o : Oper}

theorem loadVar_agg {t : TypeId} {n : Nat} (h : aggOf P t = some (some n)) {b off : Nat} {vs : List Value} (hl : vs.length = n) (hc : ∀ j v, vs[j]? = some v → w.cell? ⟨b, off + j, none⟩ = some v) :
    (loadVar t ⟨b, off, none⟩).run P w = .ok (.agg vs.toArray) w := by
  obtain ⟨d, i, h1, h2, h3, h4⟩ := aggOf_some h
  have := run_loadCells_list (P := P) w ⟨b, off, none⟩ vs (fun j v hj => by rw [add_none]; exact hc j v hj)
  unfold loadVar
  rw [hl] at this
  subst h3
  simp only [Sem.run_bind, run_isAgg h1, h4, Result.andThen_ok, if_true, run_sizeI h2, this, Sem.run_pure]
theorem loadVar_one {t : TypeId} (h : aggOf P t = some none) {ad : Addr} {v : Value} (hc : w.cell? ad = some v) : (loadVar t ad).run P w = .ok v w := by
  obtain ⟨d, i, h1, h2, h3, h4⟩ := aggOf_none h
  unfold loadVar
  simp only [Sem.run_bind, run_isAgg h1, h4, Result.andThen_ok, Bool.false_eq_true, if_false, run_load, hc]

theorem arr_block (h : SimG w0 S0 M σ a w S μ β) {id cv s : Nat} {rows : List (List IV)} (hl : look σ.objs id = some (.arr cv s rows)) {b cap : Nat} (hm : μ id = .slice (some ⟨b, 0, none⟩) rows.length cap) (hpos : rows ≠ [] ∨ 0 < cap) :
    ∃ vs e fr, β id = some b ∧ w.heap[b]? = some (.cells vs e fr) ∧ NoFrz fr vs.size ∧ vs.size = cap * s ∧ rows.length ≤ cap ∧ (∀ r ∈ rows, r.length = s) ∧ RepOnes w S rows.flatten (vs.toList.take (rows.length * s)) := by
  rcases h.objs id _ hl with ⟨hr, _, x, hx⟩ | ⟨b', cap', vs, e, fr, h1, h2, h3, h4, h5, h6, h7, h8⟩
  · exfalso
    rw [hm] at hx
    simp only [Value.slice.injEq] at hx
    rcases hpos with hp | hp
    · exact hp hr
    · omega
  · rw [hm] at h2
    simp only [Value.slice.injEq, Option.some.injEq, Addr.mk.injEq, and_true] at h2
    obtain ⟨rfl, _, rfl⟩ := h2
    exact ⟨vs, e, fr, h1, h3, h4, h5, h6, h7, h8⟩

theorem flatten_row : ∀ {rows : List (List IV)} {s i : Nat} {r : List IV}, (∀ r ∈ rows, r.length = s) → rows[i]? = some r → (rows.flatten.drop (i * s)).take s = r
  | [], _, _, _, _, h => by simp at h
  | r0 :: rs, s, 0, r, hl, h => by
    have : r0 = r := by simpa using h
    subst this
    have h1 := hl r0 (by simp)
    simp only [List.flatten_cons, Nat.zero_mul, List.drop_zero]
    rw [← h1, List.take_left']
    rfl
  | r0 :: rs, s, i + 1, r, hl, h => by
    have h1 := hl r0 (by simp)
    have ih := flatten_row (rows := rs) (s := s) (i := i) (r := r) (fun x hx => hl x (List.mem_cons_of_mem _ hx)) (by simpa using h)
    simp only [List.flatten_cons]
    rw [show (i + 1) * s = r0.length + i * s by rw [h1, Nat.add_mul]; omega, List.drop_append, List.drop_eq_nil_of_le (by omega)]
    simpa using ih

/-- The cells of an array's element. -/
theorem arr_row (h : SimG w0 S0 M σ a w S μ β) {id cv s i : Nat} {rows : List (List IV)} {row : List IV} (hl : look σ.objs id = some (.arr cv s rows)) {b cap : Nat} (hm : μ id = .slice (some ⟨b, 0, none⟩) rows.length cap) (hr : rows[i]? = some row) :
    ∃ us : List Value, RepOnes w S row us ∧ row.length = s ∧ ∀ j v, us[j]? = some v → w.cell? ⟨b, i * s + j, none⟩ = some v := by
  have hi : i < rows.length := by
    rcases Nat.lt_or_ge i rows.length with hh | hh
    · exact hh
    · simp [List.getElem?_eq_none hh] at hr
  obtain ⟨vs, e, fr, _, h3, _, h5, h6, h7, h8⟩ := arr_block h hl hm (.inl (by intro e; subst e; simp at hi))
  have hrow : row.length = s := h7 row (List.mem_of_getElem? hr)
  have hx := RepOnes.take s (RepOnes.drop (i * s) h8)
  rw [flatten_row h7 hr] at hx
  refine ⟨_, hx, hrow, fun j v hj => ?_⟩
  rw [cell_row h3]
  have hlt : i * s + j < rows.length * s := by
    have h9 := RepOnes.length hx
    have hj' : j < s := by
      rcases Nat.lt_or_ge j s with hh | hh
      · exact hh
      · rw [List.getElem?_take, if_neg (by omega)] at hj
        simp at hj
    have : (i + 1) * s ≤ rows.length * s := Nat.mul_le_mul_right _ hi
    rw [Nat.add_mul] at this
    omega
  rw [List.getElem?_take] at hj
  split at hj
  · rw [List.getElem?_drop, List.getElem?_take, if_pos hlt, Array.getElem?_toList] at hj
    simpa using hj
  · simp at hj

theorem LnRel.find {w : World} {S : Stab} {μ : Nat → Value} {objs : List (Nat × Ob)} {s n : Nat} {vs : List Value} {i j : Nat} {x : SV} : ∀ {l : List (Nat × Nat × SV)}, LnRel w S μ objs s n vs l → lnFind l i j = some x → i < n ∧ j < s ∧ ∃ v, vs[i * s + j]? = some v ∧ SVRel w S μ objs x v
  | [], _, hf => by simp [lnFind] at hf
  | p :: r, ⟨⟨h1, h2, v, h3, h4⟩, h5⟩, hf => by
    simp only [lnFind] at hf
    cases hp : (p.1 == i && p.2.1 == j) with
    | false => rw [hp] at hf; exact LnRel.find h5 hf
    | true =>
      rw [hp] at hf
      simp only [cond_true, Option.some.injEq] at hf
      simp only [Bool.and_eq_true, beq_iff_eq] at hp
      obtain ⟨rfl, rfl⟩ := hp
      subst hf
      exact ⟨h1, h2, v, h3, h4⟩
theorem tab_block (h : SimG w0 S0 M σ a w S μ β) {id cv s : Nat} {rows : List (List IV)} {ln : List (Nat × Nat × SV)} (hl : look σ.objs id = some (.tab cv s rows ln)) {b cap : Nat} (hm : μ id = .slice (some ⟨b, 0, none⟩) rows.length cap) (hpos : rows ≠ []) :
    ∃ vs e fr, β id = some b ∧ w.heap[b]? = some (.cells vs e fr) ∧ NoFrz fr vs.size ∧ vs.size = cap * s ∧ rows.length ≤ cap ∧ (∀ r ∈ rows, r.length = s) ∧ RepOnes w S rows.flatten (vs.toList.take (rows.length * s)) ∧ LnRel w S μ σ.objs s rows.length vs.toList ln := by
  rcases h.objs id _ hl with ⟨hr, _⟩ | ⟨b', cap', vs, e, fr, h1, h2, h3, h4, h5, h6, h7, h8, h9⟩
  · exact absurd hr hpos
  rw [hm] at h2
  simp only [Value.slice.injEq, Option.some.injEq, Addr.mk.injEq, and_true] at h2
  obtain ⟨rfl, _, rfl⟩ := h2
  exact ⟨vs, e, fr, h1, h3, h4, h5, h6, h7, h8, h9⟩
/-- The cells of a row that may hold something of the call's own. -/
theorem tab_row (h : SimG w0 S0 M σ a w S μ β) {id cv s i : Nat} {rows : List (List IV)} {row : List IV} {ln : List (Nat × Nat × SV)} (hl : look σ.objs id = some (.tab cv s rows ln)) {b cap : Nat} (hm : μ id = .slice (some ⟨b, 0, none⟩) rows.length cap) (hr : rows[i]? = some row) :
    ∃ us : List Value, RepOnes w S row us ∧ row.length = s ∧ (∀ j v, us[j]? = some v → w.cell? ⟨b, i * s + j, none⟩ = some v) ∧ ∀ j x, lnFind ln i j = some x → ∃ v, us[j]? = some v ∧ SVRel w S μ σ.objs x v := by
  have hi : i < rows.length := by
    rcases Nat.lt_or_ge i rows.length with hh | hh
    · exact hh
    · simp [List.getElem?_eq_none hh] at hr
  obtain ⟨vs, e, fr, _, h3, _, h5, h6, h7, h8, h9⟩ := tab_block h hl hm (by intro e; subst e; simp at hi)
  have hrow : row.length = s := h7 row (List.mem_of_getElem? hr)
  have hx := RepOnes.take s (RepOnes.drop (i * s) h8)
  rw [flatten_row h7 hr] at hx
  have hle : (i + 1) * s ≤ rows.length * s := Nat.mul_le_mul_right _ hi
  rw [Nat.add_mul] at hle
  have key : ∀ j, j < s → (((vs.toList.take (rows.length * s)).drop (i * s)).take s)[j]? = vs.toList[i * s + j]? := by
    intro j hj
    rw [List.getElem?_take, if_pos hj, List.getElem?_drop, List.getElem?_take, if_pos (by omega)]
  refine ⟨_, hx, hrow, fun j v hj => ?_, fun j x hf => ?_⟩
  · rw [cell_row h3]
    have hj' : j < s := by
      rcases Nat.lt_or_ge j s with hh | hh
      · exact hh
      · rw [List.getElem?_take, if_neg (by omega)] at hj
        simp at hj
    rw [key j hj', Array.getElem?_toList] at hj
    exact hj
  · obtain ⟨_, h11, v, h12, h13⟩ := h9.find hf
    exact ⟨v, by rw [key j h11]; exact h12, h13⟩
theorem lnCell_sound {w : World} {S : Stab} {μ : Nat → Value} {objs : List (Nat × Ob)} {ln : List (Nat × Nat × SV)} {i j : Nat} {c : IV} {v : Value} (h : Rep w S c v) (hf : ∀ x, lnFind ln i j = some x → SVRel w S μ objs x v) : SVRel w S μ objs (lnCell ln i j c) v := by
  unfold lnCell
  cases hx : lnFind ln i j with
  | none => exact h
  | some x => exact hf x hx
theorem lnCells_sound {w : World} {S : Stab} {μ : Nat → Value} {objs : List (Nat × Ob)} {ln : List (Nat × Nat × SV)} {i : Nat} : ∀ {cs : List IV} {us : List Value} {off : Nat}, RepOnes w S cs us → (∀ j x v, lnFind ln i (off + j) = some x → us[j]? = some v → SVRel w S μ objs x v) → SVOnes w S μ objs (lnCells ln i off cs) us
  | [], _, _, h, _ => h
  | c :: cs, _, off, ⟨u, us, h1, h0, h2, h3⟩, hf => by
    subst h1
    refine ⟨u, us, rfl, IV.one_oneCell h0 h2, lnCell_sound h2 (fun x hx => hf 0 x u hx rfl), lnCells_sound h3 (fun j x v hx hv => ?_)⟩
    exact hf (j + 1) x v (by rw [← hx]; congr 1; omega) (by simpa using hv)

theorem box_cells (h : SimG w0 S0 M σ a w S μ β) {id off : Nat} {cells : List SV} (hl : look σ.objs id = some (.box cells)) {v : Value} (hr : SVRel w S μ σ.objs (.loc id off) v) :
    ∃ b vs e fr, β id = some b ∧ μ id = .pointer (some ⟨b, 0, none⟩) ∧ v = .pointer (some ⟨b, off, none⟩) ∧ w.heap[b]? = some (.cells vs e fr) ∧ NoFrz fr vs.size ∧ SVOnes w S μ σ.objs cells vs.toList := by
  obtain ⟨b, hm, rfl⟩ := hr _ hl
  obtain ⟨b', us, e, fr, hb, hm', hh, hf, hs⟩ := h.objs id _ hl
  obtain rfl : b' = b := by rw [hm] at hm'; simpa using hm'.symm
  exact ⟨b', us, e, fr, hb, hm, rfl, hh, hf, hs⟩

theorem snd_load (h : SimG w0 S0 M σ a w S μ β) (hd : ∀ d, o.dst = some d → d < σ.n) {t : TypeId} {x : Operand} {x' : Opd} {g : Option Nat} (ho : o.op = .load t x) (hx : compOpd x = some x') (hg : aggOf P t = some g)
    {u : Upd} (hu : evLoad σ g (val σ x') = some u) (hs : u.side) : Does P o a w (fun v w' => Sim w0 S0 M (σ.apply o.dst u) (a.put o.dst v) w') := by
  have hrel := opd_sound h hx
  unfold evLoad at hu
  split at hu
  · next cells heq =>
    rw [heq] at hrel
    obtain ⟨b, off, hv, hcells⟩ := hrel
    obtain ⟨vs, hr, hc⟩ := RepCells.vals hcells
    split at hu
    · next n =>
      obtain rfl := Option.some.inj hu
      have hs : n ≤ cells.length := hs
      refine does_pure0 h hd (v := .agg (vs.take n).toArray) ?_ ⟨(vs.take n).toArray, rfl, by simpa using RepOnes.take n hr⟩
      have hlen : (vs.take n).length = n := by rw [List.length_take, RepOnes.length hr]; omega
      simp only [execOp, ho, hv, Instr.loadAt, Instr.sureAddr, Sem.run_bind, Sem.run_pure, Result.andThen_ok]
      rw [loadVar_agg hg hlen (fun j v hj => hc j v (by
        rw [List.getElem?_take] at hj
        split at hj
        · exact hj
        · simp at hj))]
      rfl
    · split at hu
      · next c cs =>
        obtain rfl := Option.some.inj hu
        obtain ⟨v, h1, _, h2⟩ := RepOnes.get (j := 0) hr rfl
        refine does_pure0 h hd (v := v) ?_ h2
        simp only [execOp, ho, hv, Instr.loadAt, Instr.sureAddr, Sem.run_bind, Sem.run_pure, Result.andThen_ok]
        rw [loadVar_one hg (v := v) (by simpa using hc 0 v h1)]
        rfl
      · simp at hu
  · next id off heq =>
    rw [heq] at hrel
    split at hu
    · next cells hl =>
      obtain ⟨b, vs, e, fr, _, _, hv, hh, _, hr⟩ := box_cells h hl hrel
      split at hu
      · next n =>
        obtain rfl := Option.some.inj hu
        have hs : off + n ≤ cells.length := hs
        have hr' := SVOnes.take n (SVOnes.drop off hr)
        refine does_pure0 h hd (v := .agg ((vs.toList.drop off).take n).toArray) ?_ (mkAgg_sound hr')
        have hlen : ((vs.toList.drop off).take n).length = n := by
          have := SVOnes.length hr
          rw [List.length_take, List.length_drop]; omega
        simp only [execOp, ho, hv, Instr.loadAt, Instr.sureAddr, Sem.run_bind, Sem.run_pure, Result.andThen_ok]
        rw [loadVar_agg hg hlen (fun j v hj => by
          rw [List.getElem?_take] at hj
          split at hj
          · rw [List.getElem?_drop, Array.getElem?_toList] at hj
            rw [cell_row hh]; exact hj
          · simp at hj)]
        rfl
      · split at hu
        · next c hc =>
          obtain rfl := Option.some.inj hu
          obtain ⟨v, h1, _, h2⟩ := SVOnes.get hr hc
          refine does_pure0 h hd (v := v) ?_ h2
          simp only [execOp, ho, hv, Instr.loadAt, Instr.sureAddr, Sem.run_bind, Sem.run_pure, Result.andThen_ok]
          rw [loadVar_one hg (v := v) (by rw [cell_row hh]; rw [Array.getElem?_toList] at h1; exact h1)]
          rfl
        · simp at hu
    · simp at hu
  · next id ver i off heq =>
    rw [heq] at hrel
    split at hu
    · next cv s rows hl =>
      split at hu
      · next hver =>
        have hver : ver = cv := by simpa using hver
        obtain ⟨_, hr0⟩ := hrel _ _ _ hl
        obtain ⟨b, cap, hm, hv⟩ := hr0 hver
        split at hu
        · next row hrow =>
          obtain ⟨us, hr, hlen, hc⟩ := arr_row h hl hm hrow
          split at hu
          · next n =>
            obtain rfl := Option.some.inj hu
            have hs : off + n ≤ row.length := hs
            refine does_pure0 h hd (v := .agg ((us.drop off).take n).toArray) ?_ ⟨_, rfl, by simpa using RepOnes.take n (RepOnes.drop off hr)⟩
            have hl2 : ((us.drop off).take n).length = n := by
              have := RepOnes.length hr
              rw [List.length_take, List.length_drop]; omega
            simp only [execOp, ho, hv, Instr.loadAt, Instr.sureAddr, Sem.run_bind, Sem.run_pure, Result.andThen_ok]
            rw [loadVar_agg hg hl2 (fun j v hj => by
              rw [List.getElem?_take] at hj
              split at hj
              · rw [List.getElem?_drop] at hj
                have := hc _ _ hj
                rwa [← Nat.add_assoc] at this
              · simp at hj)]
            rfl
          · split at hu
            · next c hcc =>
              obtain rfl := Option.some.inj hu
              obtain ⟨v, h1, _, h2⟩ := RepOnes.get hr hcc
              refine does_pure0 h hd (v := v) ?_ h2
              simp only [execOp, ho, hv, Instr.loadAt, Instr.sureAddr, Sem.run_bind, Sem.run_pure, Result.andThen_ok]
              rw [loadVar_one hg (v := v) (hc _ _ h1)]
              rfl
            · simp at hu
        · simp at hu
      · simp at hu
    · simp at hu
  · next id ver i off heq =>
    rw [heq] at hrel
    split at hu
    · next cv s rows ln hl =>
      split at hu
      · next hver =>
        have hver : ver = cv := by simpa using hver
        obtain ⟨_, hr0⟩ := hrel _ _ _ _ hl
        obtain ⟨b, cap, hm, hv⟩ := hr0 hver
        split at hu
        · next row hrow =>
          obtain ⟨us, hr, hlen, hc, hln⟩ := tab_row h hl hm hrow
          split at hu
          · next n =>
            obtain rfl := Option.some.inj hu
            have hs : off + n ≤ row.length := hs
            have hr' := RepOnes.take n (RepOnes.drop off hr)
            have hsv : SVOnes w S μ σ.objs (lnCells ln i off ((row.drop off).take n)) ((us.drop off).take n) := lnCells_sound hr' (fun j x v hx hv => by
              obtain ⟨v', h1, h2⟩ := hln _ _ hx
              rw [List.getElem?_take] at hv
              split at hv
              · rw [List.getElem?_drop] at hv
                rw [hv] at h1
                obtain rfl := Option.some.inj h1
                exact h2
              · simp at hv)
            refine does_pure0 h hd (v := .agg ((us.drop off).take n).toArray) ?_ (mkAgg_sound (by simpa using hsv))
            have hl2 : ((us.drop off).take n).length = n := by
              have := RepOnes.length hr
              rw [List.length_take, List.length_drop]; omega
            simp only [execOp, ho, hv, Instr.loadAt, Instr.sureAddr, Sem.run_bind, Sem.run_pure, Result.andThen_ok]
            rw [loadVar_agg hg hl2 (fun j v hj => by
              rw [List.getElem?_take] at hj
              split at hj
              · rw [List.getElem?_drop] at hj
                have := hc _ _ hj
                rwa [← Nat.add_assoc] at this
              · simp at hj)]
            rfl
          · split at hu
            · next c hcc =>
              obtain rfl := Option.some.inj hu
              obtain ⟨v, h1, _, h2⟩ := RepOnes.get hr hcc
              refine does_pure0 h hd (v := v) ?_ (lnCell_sound h2 (fun x hx => by
                obtain ⟨v', k1, k2⟩ := hln _ _ hx
                rw [h1] at k1
                obtain rfl := Option.some.inj k1
                exact k2))
              simp only [execOp, ho, hv, Instr.loadAt, Instr.sureAddr, Sem.run_bind, Sem.run_pure, Result.andThen_ok]
              rw [loadVar_one hg (v := v) (hc _ _ h1)]
              rfl
            · simp at hu
        · simp at hu
      · simp at hu
    · simp at hu
  · simp at hu

theorem fieldPlace_run {b off : Nat} {f : Field} {n : Nat} (hs : sizeT P f.type = some n) (hn : n ≠ 0) : (fieldPlace ⟨b, off, none⟩ f).run P w = .ok ⟨b, off + f.offset, none⟩ w := by
  unfold fieldPlace
  simp only [Sem.run_bind, run_sizeT hs, Result.andThen_ok, hn, if_false, Sem.run_pure, add_none]

theorem snd_fieldAddr (h : SimG w0 S0 M σ a w S μ β) (hd : ∀ d, o.dst = some d → d < σ.n) {t : TypeId} {fs : Array Field} {f : Nat} {g : Field} {n : Nat} {x : Operand} {x' : Opd} (ho : o.op = .fieldAddr t x f)
    (ht : P.underlying t = some (.struct fs)) (hf : fs[f]? = some g) (hsz : sizeT P g.type = some n) (hn : n ≠ 0) (hx : compOpd x = some x') {u : Upd} (hu : ev σ o.dst (.fieldAddr g.offset x') = some u) :
    Does P o a w (fun v w' => Sim w0 S0 M (σ.apply o.dst u) (a.put o.dst v) w') := by
  have hrel := opd_sound h hx
  have hrun : ∀ {b off : Nat}, a.eval x = .pointer (some ⟨b, off, none⟩) → (execOp a.eval o).run P w = .ok (.value (.pointer (some ⟨b, off + g.offset, none⟩))) w := by
    intro b off hv
    simp only [execOp, ho, hv, Instr.fieldAt, Sem.run_bind, run_underlying ht, Result.andThen_ok, hf, Instr.sureAddr, Sem.run_pure, fieldPlace_run hsz hn]
  simp only [ev] at hu
  split at hu
  · next cells heq =>
    rw [heq] at hrel
    obtain ⟨b, off, hv, hcells⟩ := hrel
    obtain rfl := Option.some.inj hu
    exact does_pure0 h hd (hrun hv) ⟨b, off + g.offset, rfl, RepCells.drop _ hcells⟩
  · next id off heq =>
    rw [heq] at hrel
    split at hu
    · next cells hl =>
      obtain rfl := Option.some.inj hu
      obtain ⟨b, vs, e, fr, _, hm, hv, _, _, _⟩ := box_cells h hl hrel
      exact does_pure0 h hd (hrun hv) (fun cells' hl' => ⟨b, hm, rfl⟩)
    · simp at hu
  · next id ver i off heq =>
    rw [heq] at hrel
    split at hu
    · next cv s rows hl =>
      split at hu
      · next hver =>
        have hver : ver = cv := by simpa using hver
        obtain ⟨hle, hr0⟩ := hrel _ _ _ hl
        obtain ⟨b, cap, hm, hv⟩ := hr0 hver
        obtain rfl := Option.some.inj hu
        refine does_pure0 h hd (hrun hv) (fun cv' s' rows' hl' => ?_)
        rw [hl] at hl'
        simp only [Option.some.injEq, Ob.arr.injEq] at hl'
        obtain ⟨rfl, rfl, rfl⟩ := hl'
        exact ⟨hle, fun _ => ⟨b, cap, hm, by rw [Nat.add_assoc]⟩⟩
      · simp at hu
    · simp at hu
  · next id ver i off heq =>
    rw [heq] at hrel
    split at hu
    · next cv s rows ln hl =>
      split at hu
      · next hver =>
        have hver : ver = cv := by simpa using hver
        obtain ⟨hle, hr0⟩ := hrel _ _ _ _ hl
        obtain ⟨b, cap, hm, hv⟩ := hr0 hver
        obtain rfl := Option.some.inj hu
        refine does_pure0 h hd (hrun hv) (fun cv' s' rows' ln' hl' => ?_)
        rw [hl] at hl'
        simp only [Option.some.injEq, Ob.tab.injEq] at hl'
        obtain ⟨rfl, rfl, rfl, rfl⟩ := hl'
        exact ⟨hle, fun _ => ⟨b, cap, hm, by rw [Nat.add_assoc]⟩⟩
      · simp at hu
    · simp at hu
  · simp at hu

theorem snd_part (h : SimG w0 S0 M σ a w S μ β) (hd : ∀ d, o.dst = some d → d < σ.n) {ft : TypeId} {g : Option Nat} (hg : aggOf P ft = some g) {off : Nat} {sv : SV} {v : Value} (hrel : SVRel w S μ σ.objs sv v)
    (hrun : ∀ vs u, v = .agg vs → (part ft vs off).run P w = .ok u w → (execOp a.eval o).run P w = .ok (.value u) w) {u : Upd}
    (hu : evPart off g sv = some u) :
    Does P o a w (fun v w' => Sim w0 S0 M (σ.apply o.dst u) (a.put o.dst v) w') := by
  unfold evPart at hu
  split at hu
  · next cells =>
    obtain ⟨vs, rfl, hr⟩ := hrel
    split at hu
    · next n =>
      obtain rfl := Option.some.inj hu
      obtain ⟨d, i, h1, h2, h3, h4⟩ := aggOf_some hg
      have hsz : sizeT P ft = some n := by simp [sizeT, h2, h3]
      exact does_pure0 h hd (hrun vs _ rfl (run_part_agg h1 h4 hsz vs off)) ⟨_, rfl, hr.extract off n⟩
    · split at hu
      · next c hc =>
        obtain rfl := Option.some.inj hu
        obtain ⟨v, h5, _, h6⟩ := RepOnes.get hr hc
        obtain ⟨d, i, h1, h2, h3, h4⟩ := aggOf_none hg
        exact does_pure0 h hd (hrun vs _ rfl (run_part_one h1 h4 vs off (by simpa using h5))) h6
      · simp at hu
  · next cells =>
    obtain ⟨vs, rfl, hr⟩ := hrel
    split at hu
    · next n =>
      obtain rfl := Option.some.inj hu
      obtain ⟨d, i, h1, h2, h3, h4⟩ := aggOf_some hg
      have hsz : sizeT P ft = some n := by simp [sizeT, h2, h3]
      refine does_pure0 h hd (hrun vs _ rfl (run_part_agg h1 h4 hsz vs off)) ?_
      have := mkAgg_sound (SVOnes.take n (SVOnes.drop off hr))
      have he : ((vs.toList.drop off).take n).toArray = vs.extract off (off + n) := by
        apply Array.toList_inj.1
        rw [Array.toList_extract, List.extract_eq_take_drop, Nat.add_sub_cancel_left]
      rw [he] at this
      exact this
    · split at hu
      · next c hc =>
        obtain rfl := Option.some.inj hu
        obtain ⟨v, h5, _, h6⟩ := SVOnes.get hr hc
        obtain ⟨d, i, h1, h2, h3, h4⟩ := aggOf_none hg
        exact does_pure0 h hd (hrun vs _ rfl (run_part_one h1 h4 vs off (by simpa using h5))) h6
      · simp at hu
  · simp at hu

theorem snd_field (h : SimG w0 S0 M σ a w S μ β) (hd : ∀ d, o.dst = some d → d < σ.n) {t : TypeId} {fs : Array Field} {f : Nat} {fg : Field} {g : Option Nat} {x : Operand} {x' : Opd} (ho : o.op = .field t x f)
    (ht : P.underlying t = some (.struct fs)) (hf : fs[f]? = some fg) (hg : aggOf P fg.type = some g) (hx : compOpd x = some x') {u : Upd} (hu : ev σ o.dst (.field fg.offset g x') = some u) :
    Does P o a w (fun v w' => Sim w0 S0 M (σ.apply o.dst u) (a.put o.dst v) w') := by
  refine snd_part h hd hg (opd_sound h hx) ?_ hu
  intro vs u hv hrun
  simp only [execOp, ho, hv, Instr.field, Sem.run_bind, run_underlying ht, Result.andThen_ok, hf, asAgg, Sem.run_pure, hrun]

theorem snd_extract (h : SimG w0 S0 M σ a w S μ β) (hd : ∀ d, o.dst = some d → d < σ.n) {x : Operand} {x' : Opd} {i : Nat} (ho : o.op = .extract x i) (hx : compOpd x = some x') {u : Upd} (hu : ev σ o.dst (.extract x' i) = some u) :
    Does P o a w (fun v w' => Sim w0 S0 M (σ.apply o.dst u) (a.put o.dst v) w') := by
  have hrel := opd_sound h hx
  simp only [ev] at hu
  split at hu
  · next vs heq =>
    rw [heq] at hrel
    obtain ⟨us, hv, hr⟩ := hrel
    split at hu
    · next v hc =>
      obtain rfl := Option.some.inj hu
      obtain ⟨v', h1, h2⟩ := RepList.get hr hc
      refine does_pure0 h hd (v := v') ?_ h2
      have h1' : us[i]? = some v' := by simpa using h1
      simp only [execOp, ho, hv, Instr.extract, h1', Sem.run_bind, Sem.run_pure, Result.andThen_ok]
    · simp at hu
  · next vs heq =>
    rw [heq] at hrel
    obtain ⟨us, hv, hr⟩ := hrel
    split at hu
    · next v hc =>
      obtain rfl := Option.some.inj hu
      obtain ⟨v', h1, h2⟩ := SVList.get hr hc
      refine does_pure0 h hd (v := v') ?_ h2
      have h1' : us[i]? = some v' := by simpa using h1
      simp only [execOp, ho, hv, Instr.extract, h1', Sem.run_bind, Sem.run_pure, Result.andThen_ok]
    · simp at hu
  · simp at hu

theorem snd_mkIface (h : SimG w0 S0 M σ a w S μ β) (hd : ∀ d, o.dst = some d → d < σ.n) {t : TypeId} {d : TypeDesc} {x : Operand} {x' : Opd} (ho : o.op = .makeInterface t x) (ht : P.underlying t = some d) (hi : ∀ ms, d ≠ .interface ms)
    (hx : compOpd x = some x') {u : Upd} (hu : ev σ o.dst (.mkIface t x') = some u) : Does P o a w (fun v w' => Sim w0 S0 M (σ.apply o.dst u) (a.put o.dst v) w') := by
  have hrel := opd_sound h hx
  have hrun : (execOp a.eval o).run P w = .ok (.value (.iface t (a.eval x))) w := by
    simp only [execOp, ho, Instr.makeInterface, Sem.run_bind, run_underlying ht, Result.andThen_ok]
    cases d <;> first | rfl | exact absurd rfl (hi _)
  simp only [ev] at hu
  split at hu
  · next v heq =>
    rw [heq] at hrel
    obtain rfl := Option.some.inj hu
    exact does_pure0 h hd hrun ⟨_, rfl, hrel⟩
  · next id off heq =>
    rw [heq] at hrel
    obtain rfl := Option.some.inj hu
    exact does_pure0 h hd hrun ⟨_, rfl, hrel⟩
  · simp at hu

theorem snd_mkFunc (h : SimG w0 S0 M σ a w S μ β) (hd : ∀ d, o.dst = some d → d < σ.n) {f : FuncId} {caps : Array Operand} {caps' : List Opd} (ho : o.op = .makeFunc (.func f) #[] caps) (hc : compOpds caps.toList = some caps')
    {u : Upd} (hu : ev σ o.dst (.mkFunc f caps') = some u) : Does P o a w (fun v w' => Sim w0 S0 M (σ.apply o.dst u) (a.put o.dst v) w') := by
  have hrun : (execOp a.eval o).run P w = .ok (.value (.func (.func f) #[] (caps.map a.eval))) w := by
    simp [execOp, ho, Instr.makeFunc]
  have hrel := opds_sound h hc
  simp only [ev] at hu
  split at hu
  · obtain rfl := Option.some.inj hu
    refine does_pure0 h hd hrun ⟨_, rfl, ?_⟩
    simpa [RepList, SVList] using hrel
  · obtain rfl := Option.some.inj hu
    exact does_pure0 h hd hrun ⟨_, rfl, by simpa using hrel⟩

theorem allVal_list {w : World} {S : Stab} {μ : Nat → Value} {objs : List (Nat × Ob)} : ∀ {xs : List SV} {vs : List IV} {ws : List Value}, allVal xs = some vs → SVList w S μ objs xs ws → RepList w S vs ws
  | [], vs, ws, h, hr => by
    simp only [allVal, Option.some.injEq] at h
    subst h
    exact hr
  | x :: r, vs, ws, h, ⟨v, vs', e, h1, h2⟩ => by
    cases x with
    | val iv =>
      simp only [allVal] at h
      cases hr : allVal r with
      | none => rw [hr] at h; simp at h
      | some us =>
        rw [hr] at h
        simp only [Option.some.injEq] at h
        subst h
        exact ⟨v, vs', e, h1, allVal_list hr h2⟩
    | _ => simp [allVal] at h
theorem snd_mkBound (h : SimG w0 S0 M σ a w S μ β) (hd : ∀ d, o.dst = some d → d < σ.n) {f : FuncId} {first : Array Operand} {first' : List Opd} (ho : o.op = .makeFunc (.func f) first #[]) (hc : compOpds first.toList = some first')
    {u : Upd} (hu : ev σ o.dst (.mkBound f first') = some u) : Does P o a w (fun v w' => Sim w0 S0 M (σ.apply o.dst u) (a.put o.dst v) w') := by
  have hrun : (execOp a.eval o).run P w = .ok (.value (.func (.func f) (first.map a.eval) #[])) w := by
    simp [execOp, ho, Instr.makeFunc]
  have hrel := opds_sound h hc
  simp only [ev] at hu
  split at hu
  · next vs hv =>
    obtain rfl := Option.some.inj hu
    exact does_pure0 h hd hrun ⟨_, rfl, by simpa using allVal_list hv hrel⟩
  · obtain rfl := Option.some.inj hu
    exact does_pure0 h hd hrun ⟨_, rfl, by simpa using hrel⟩

theorem snd_nilCheck (h : SimG w0 S0 M σ a w S μ β) (hd : ∀ d, o.dst = some d → d < σ.n) {x : Operand} {x' : Opd} (ho : o.op = .nilCheck x) (hx : compOpd x = some x') {u : Upd} (hu : ev σ o.dst (.nilCheck x') = some u) :
    Does P o a w (fun v w' => Sim w0 S0 M (σ.apply o.dst u) (a.put o.dst v) w') := by
  have hrel := opd_sound h hx
  simp only [ev] at hu
  split at hu
  · next cs heq =>
    rw [heq] at hrel
    obtain rfl := Option.some.inj hu
    obtain ⟨b, off, hv, hcells⟩ := hrel
    exact does_pure0 h hd (v := .pointer (some ⟨b, off, none⟩)) (by simp only [execOp, ho, hv]; rfl) ⟨b, off, rfl, hcells⟩
  · next id off heq =>
    rw [heq] at hrel
    split at hu
    · next cells hl =>
      obtain rfl := Option.some.inj hu
      obtain ⟨b, vs, e, fr, _, hm, hv, _, _, _⟩ := box_cells h hl hrel
      exact does_pure0 h hd (v := .pointer (some ⟨b, off, none⟩)) (by simp only [execOp, ho, hv]; rfl) (fun cells' hl' => ⟨b, hm, rfl⟩)
    · simp at hu
  · next f cs heq =>
    rw [heq] at hrel
    obtain rfl := Option.some.inj hu
    obtain ⟨vs, hv, hcells⟩ := hrel
    exact does_pure0 h hd (v := .func (.func f) #[] vs) (by simp only [execOp, ho, hv]; rfl) ⟨vs, rfl, hcells⟩
  · next f cs heq =>
    rw [heq] at hrel
    obtain rfl := Option.some.inj hu
    obtain ⟨vs, hv, hcells⟩ := hrel
    exact does_pure0 h hd (v := .func (.func f) #[] vs) (by simp only [execOp, ho, hv]; rfl) ⟨vs, rfl, hcells⟩
  · next f cs heq =>
    rw [heq] at hrel
    obtain rfl := Option.some.inj hu
    obtain ⟨vs, hv, hcells⟩ := hrel
    exact does_pure0 h hd (v := .func (.func f) vs #[]) (by simp only [execOp, ho, hv]; rfl) ⟨vs, rfl, hcells⟩
  · next id t heq =>
    rw [heq] at hrel
    split at hu
    · next cells hl =>
      obtain rfl := Option.some.inj hu
      obtain ⟨b, hm, _, ⟨h0, _⟩ | hv⟩ := hrel _ hl
      · cases h0
      · exact does_pure0 h hd (v := .pointer (some ⟨b, 0, none⟩)) (by simp only [execOp, ho, hv]; rfl) (fun cells' hl' => ⟨b, hm, rfl⟩)
    · simp at hu
  · next id ver i off heq =>
    rw [heq] at hrel
    split at hu
    · next cv s rows hl =>
      split at hu
      · next hver =>
        have hver : ver = cv := by simpa using hver
        obtain ⟨hle, hr0⟩ := hrel _ _ _ hl
        obtain ⟨b, cap, hm, hv⟩ := hr0 hver
        obtain rfl := Option.some.inj hu
        refine does_pure0 h hd (v := a.eval x) (by simp only [execOp, ho, hv]; rfl) (fun cv' s' rows' hl' => ?_)
        rw [hl] at hl'
        simp only [Option.some.injEq, Ob.arr.injEq] at hl'
        obtain ⟨rfl, rfl, rfl⟩ := hl'
        exact ⟨hle, fun _ => ⟨b, cap, hm, hv⟩⟩
      · simp at hu
    · simp at hu
  · next id ver i off heq =>
    rw [heq] at hrel
    split at hu
    · next cv s rows ln hl =>
      split at hu
      · next hver =>
        have hver : ver = cv := by simpa using hver
        obtain ⟨hle, hr0⟩ := hrel _ _ _ _ hl
        obtain ⟨b, cap, hm, hv⟩ := hr0 hver
        obtain rfl := Option.some.inj hu
        refine does_pure0 h hd (v := a.eval x) (by simp only [execOp, ho, hv]; rfl) (fun cv' s' rows' ln' hl' => ?_)
        rw [hl] at hl'
        simp only [Option.some.injEq, Ob.tab.injEq] at hl'
        obtain ⟨rfl, rfl, rfl, rfl⟩ := hl'
        exact ⟨hle, fun _ => ⟨b, cap, hm, hv⟩⟩
      · simp at hu
    · simp at hu
  · simp at hu

theorem intOf_sound {x : SV} {v : Value} {n : Int} {objs : List (Nat × Ob)} (hr : SVRel w S μ objs x v) (h : intOf x = some n) : ∃ k, v = .int k n := by
  unfold intOf at h
  split at h
  · next k m =>
    obtain rfl := Option.some.inj h
    exact ⟨k, hr⟩
  · simp at h

theorem snd_indexAddr (h : SimG w0 S0 M σ a w S μ β) (hd : ∀ d, o.dst = some d → d < σ.n) {t e : TypeId} {s : Nat} {x i : Operand} {x' i' : Opd} (ho : o.op = .indexAddr t x i) (ht : P.underlying t = some (.slice e)) (hsz : sizeT P e = some s)
    (hx : compOpd x = some x') (hi : compOpd i = some i') {u : Upd} (hu : ev σ o.dst (.indexAddr s x' i') = some u) (hs : u.side) : Does P o a w (fun v w' => Sim w0 S0 M (σ.apply o.dst u) (a.put o.dst v) w') := by
  have hrel := opd_sound h hx
  have hreli := opd_sound h hi
  simp only [ev] at hu
  split at hu
  · next k n heqi =>
    rw [heqi] at hreli
    have hiv : a.eval i = .int k n := hreli
    have hrun : ∀ {b off len cap : Nat}, a.eval x = .slice (some ⟨b, off, none⟩) len cap → 0 ≤ n → n.toNat < len → (execOp a.eval o).run P w = .ok (.value (.pointer (some ⟨b, off + n.toNat * s, none⟩))) w := by
      intro b off len cap hv h0 hlt
      simp only [execOp, ho, hv, hiv, Instr.indexAt, asIntOf, Sem.run_bind, Sem.run_pure, Result.andThen_ok, run_underlying ht]
      rw [if_pos ⟨h0, by omega⟩]
      simp only [Sem.run_bind, run_sizeT hsz, Result.andThen_ok, Sem.run_pure, add_none]
    split at hu
    · next h0 =>
      split at hu
      · next rows heq =>
        rw [heq] at hrel
        split at hu
        · next row hrow =>
          obtain rfl := Option.some.inj hu
          have hs : row.length = s := hs
          obtain ⟨ad, cap, hv, hle, hc⟩ := hrel
          have hlt : n.toNat < rows.length := by
            rcases Nat.lt_or_ge n.toNat rows.length with hh | hh
            · exact hh
            · simp [List.getElem?_eq_none hh] at hrow
          obtain ⟨b, off, s', rfl, hrows⟩ := hc (by intro e; subst e; simp at hlt)
          obtain ⟨h1, h2⟩ := RepRows.get hrows hrow
          have hss : s' = s := h1.symm.trans hs
          subst hss
          exact does_pure0 h hd (hrun hv h0 hlt) ⟨b, _, rfl, h2⟩
        · simp at hu
      · next rows heq =>
        rw [heq] at hrel
        split at hu
        · next row hrow =>
          obtain rfl := Option.some.inj hu
          have hs : row.length = s := hs
          obtain ⟨⟨ad, cap, hv, hle, hc⟩, _⟩ := hrel
          have hlt : n.toNat < rows.length := by
            rcases Nat.lt_or_ge n.toNat rows.length with hh | hh
            · exact hh
            · simp [List.getElem?_eq_none hh] at hrow
          obtain ⟨b, off, s', rfl, hrows⟩ := hc (by intro e; subst e; simp at hlt)
          obtain ⟨h1, h2⟩ := RepRows.get hrows hrow
          have hss : s' = s := h1.symm.trans hs
          subst hss
          exact does_pure0 h hd (hrun hv h0 hlt) ⟨b, _, rfl, h2⟩
        · simp at hu
      · next id ver heq =>
        rw [heq] at hrel
        split at hu
        · next cv s' rows hl =>
          split at hu
          · next hver =>
            have hver : ver = cv := by simpa using hver
            obtain rfl := Option.some.inj hu
            obtain ⟨hlt, hss⟩ : n.toNat < rows.length ∧ s' = s := hs
            subst hss
            obtain ⟨hle, hv0⟩ := hrel _ _ _ hl
            have hv := hv0 hver
            rcases h.objs id _ hl with ⟨hr, _, _⟩ | ⟨b, cap, vs, e', fr, h1, h2, _⟩
            · subst hr; simp at hlt
            · rw [h2] at hv
              refine does_pure0 h hd (hrun hv h0 hlt) (fun cv' s'' rows' hl' => ?_)
              rw [hl] at hl'
              simp only [Option.some.injEq, Ob.arr.injEq] at hl'
              obtain ⟨rfl, rfl, rfl⟩ := hl'
              exact ⟨hle, fun _ => ⟨b, cap, h2, by simp⟩⟩
          · simp at hu
        · simp at hu
      · next id ver heq =>
        rw [heq] at hrel
        split at hu
        · next cv s' rows ln hl =>
          split at hu
          · next hver =>
            have hver : ver = cv := by simpa using hver
            obtain rfl := Option.some.inj hu
            obtain ⟨hlt, hss⟩ : n.toNat < rows.length ∧ s' = s := hs
            subst hss
            obtain ⟨hle, hv0⟩ := hrel _ _ _ _ hl
            have hv := hv0 hver
            rcases h.objs id _ hl with ⟨hr, _⟩ | ⟨b, cap, vs, e', fr, h1, h2, _⟩
            · subst hr; simp at hlt
            rw [h2] at hv
            refine does_pure0 h hd (hrun hv h0 hlt) (fun cv' s'' rows' ln' hl' => ?_)
            rw [hl] at hl'
            simp only [Option.some.injEq, Ob.tab.injEq] at hl'
            obtain ⟨rfl, rfl, rfl, rfl⟩ := hl'
            exact ⟨hle, fun _ => ⟨b, cap, h2, by simp⟩⟩
          · simp at hu
        · simp at hu
      · next id ver lo hi heq =>
        rw [heq] at hrel
        split at hu
        · next cv s' rows hl =>
          split at hu
          · next hver =>
            obtain rfl : ver = cv := by simpa using hver
            obtain rfl := Option.some.inj hu
            obtain ⟨hlt, hss⟩ : n.toNat < hi - lo ∧ s' = s := hs
            subst hss
            obtain ⟨hle, hv0⟩ := hrel _ _ _ hl
            obtain ⟨g1, g2, x1, cap, y1, g3, g4, g5, g6⟩ := hv0 rfl
            obtain ⟨b, k1, k2⟩ := g6 (by omega)
            rw [k2] at g4
            refine does_pure0 h hd (hrun g4 h0 (by omega)) (fun cv' s'' rows' hl' => ?_)
            rw [hl] at hl'
            simp only [Option.some.injEq, Ob.arr.injEq] at hl'
            obtain ⟨rfl, rfl, rfl⟩ := hl'
            exact ⟨hle, fun _ => ⟨b, cap, by rw [g3, k1], by simp [Nat.add_mul]⟩⟩
          · simp at hu
        · simp at hu
      · simp at hu
    · simp at hu
  · simp at hu

theorem snd_indexArr (h : SimG w0 S0 M σ a w S μ β) (hd : ∀ d, o.dst = some d → d < σ.n) {t e : TypeId} {len s : Nat} {x i : Operand} {x' i' : Opd} (ho : o.op = .indexAddr t x i) (ht : P.underlying t = some (.array len e)) (hsz : sizeT P e = some s)
    (hx : compOpd x = some x') (hi : compOpd i = some i') {u : Upd} (hu : ev σ o.dst (.indexArr len s x' i') = some u) (hs : u.side) : Does P o a w (fun v w' => Sim w0 S0 M (σ.apply o.dst u) (a.put o.dst v) w') := by
  have hrel := opd_sound h hx
  have hreli := opd_sound h hi
  have hrun : ∀ {b off : Nat} {k : IntKind} {n : Int}, a.eval x = .pointer (some ⟨b, off, none⟩) → a.eval i = .int k n → 0 ≤ n → n < len → (execOp a.eval o).run P w = .ok (.value (.pointer (some ⟨b, off + n.toNat * s, none⟩))) w := by
    intro b off k n hv hiv h0 hlt
    simp only [execOp, ho, hv, hiv, Instr.indexAt, asIntOf, Sem.run_bind, Sem.run_pure, Result.andThen_ok, run_underlying ht, Instr.sureAddr]
    rw [if_pos ⟨h0, hlt⟩]
    simp only [Sem.run_bind, run_sizeT hsz, Result.andThen_ok, Sem.run_pure, add_none]
  simp only [ev] at hu
  split at hu
  · next id off k n heq heqi =>
    rw [heq] at hrel
    rw [heqi] at hreli
    split at hu
    · next cells hl =>
      obtain rfl := Option.some.inj hu
      obtain ⟨h0, hlt⟩ : 0 ≤ n ∧ n < len := hs
      obtain ⟨b, vs, e', fr, _, hm, hv, _, _, _⟩ := box_cells h hl hrel
      exact does_pure0 h hd (hrun hv hreli h0 hlt) (fun cells' hl' => ⟨b, hm, rfl⟩)
    · simp at hu
  · next cells k n heq heqi =>
    rw [heq] at hrel
    rw [heqi] at hreli
    obtain rfl := Option.some.inj hu
    obtain ⟨h0, hlt⟩ : 0 ≤ n ∧ n < len := hs
    obtain ⟨b, off, hv, hcells⟩ := hrel
    exact does_pure0 h hd (hrun hv hreli h0 hlt) ⟨b, _, rfl, RepCells.drop _ hcells⟩
  · simp at hu

theorem snd_indexS (h : SimG w0 S0 M σ a w S μ β) (hd : ∀ d, o.dst = some d → d < σ.n) {t : TypeId} {x i : Operand} {x' i' : Opd} (ho : o.op = .index t x i) (ht : P.underlying t = some .string)
    (hx : compOpd x = some x') (hi : compOpd i = some i') {u : Upd} (hu : ev σ o.dst (.indexS x' i') = some u) : Does P o a w (fun v w' => Sim w0 S0 M (σ.apply o.dst u) (a.put o.dst v) w') := by
  have hrel := opd_sound h hx
  have hreli := opd_sound h hi
  simp only [ev] at hu
  split at hu
  · next s k n heq heqi =>
    rw [heq] at hrel
    rw [heqi] at hreli
    split at hu
    · next h0 =>
      split at hu
      · next b hb =>
        obtain rfl := Option.some.inj hu
        refine does_pure0 h hd (v := .int .u8 b.toNat) ?_ rfl
        have hv : a.eval x = .string ⟨s.toArray⟩ := hrel
        have hiv : a.eval i = .int k n := hreli
        simp only [execOp, ho, hv, hiv, Instr.index, asIntOf, Sem.run_bind, Sem.run_pure, Result.andThen_ok, run_underlying ht, h0, if_true, ba_get, hb]
      · simp at hu
    · simp at hu
  · simp at hu

theorem snd_indexA (h : SimG w0 S0 M σ a w S μ β) (hd : ∀ d, o.dst = some d → d < σ.n) {t e : TypeId} {len s : Nat} {g : Option Nat} {x i : Operand} {x' i' : Opd} (ho : o.op = .index t x i) (ht : P.underlying t = some (.array len e)) (hg : aggOf P e = some g) (hsz : sizeT P e = some s)
    (hx : compOpd x = some x') (hi : compOpd i = some i') {u : Upd} (hu : ev σ o.dst (.indexA len s g x' i') = some u) : Does P o a w (fun v w' => Sim w0 S0 M (σ.apply o.dst u) (a.put o.dst v) w') := by
  have hrel := opd_sound h hx
  have hreli := opd_sound h hi
  simp only [ev] at hu
  split at hu
  · next k n heqi =>
    rw [heqi] at hreli
    have hiv : a.eval i = .int k n := hreli
    split at hu
    · next hb =>
      refine snd_part (off := n.toNat * s) h hd hg hrel (fun vs u hv hp => ?_) hu
      simp only [execOp, ho, hv, hiv, Instr.index, asIntOf, Sem.run_bind, Sem.run_pure, Result.andThen_ok, run_underlying ht]
      rw [if_pos hb]
      simp only [Sem.run_bind, run_sizeT hsz, Result.andThen_ok, hp]
    · simp at hu
  · simp at hu

end
end Go.Vs
set_option linter.unusedVariables false
set_option linter.unusedSimpArgs false
namespace Go.Vs

section
variable {P : Program} {w0 w : World} {S0 S : Stab} {M : Ctx} {σ : St} {a : Act} {μ : Nat → Value} {β : Nat → Option Nat} {o : Oper}

theorem exec_builtin {c : Call} {b : Builtin} (ho : o.op = .call c) (hb : c.callee = .builtin b) :
    ∃ consts, execOp a.eval o = builtin b c.argTypes o.type consts (c.args.map a.eval) := by
  refine ⟨c.args.map fun x => match x with | .const _ => true | _ => false, ?_⟩
  simp only [execOp, ho, resolve, hb]
  rfl

theorem toList_one {α : Type} {x : α} {l : Array α} (h : l.toList = [x]) : l = #[x] := by
  apply Array.toList_inj.1; simpa using h
theorem toList_two {α : Type} {x y : α} {l : Array α} (h : l.toList = [x, y]) : l = #[x, y] := by
  apply Array.toList_inj.1; simpa using h

theorem snd_len (h : SimG w0 S0 M σ a w S μ β) (hd : ∀ d, o.dst = some d → d < σ.n) {c : Call} {t : TypeId} {d : TypeDesc} {x : Operand} {x' : Opd} (ho : o.op = .call c) (hb : c.callee = .builtin .len) (hat : c.argTypes[0]? = some t)
    (hal : c.args.toList = [x]) (ht : P.underlying t = some d) (hx : compOpd x = some x') :
    (d = .string → ∀ u, ev σ o.dst (.lenS x') = some u → Does P o a w (fun v w' => Sim w0 S0 M (σ.apply o.dst u) (a.put o.dst v) w')) ∧
    (∀ e, d = .slice e → ∀ u, ev σ o.dst (.lenV x') = some u → Does P o a w (fun v w' => Sim w0 S0 M (σ.apply o.dst u) (a.put o.dst v) w')) ∧
    (∀ n e, d = .array n e → ∀ u, ev σ o.dst (.lenC n x') = some u → Does P o a w (fun v w' => Sim w0 S0 M (σ.apply o.dst u) (a.put o.dst v) w')) := by
  have hrel := opd_sound h hx
  obtain ⟨consts, hex⟩ := exec_builtin (a := a) ho hb
  have hargs := toList_one hal
  refine ⟨?_, ?_, ?_⟩
  · rintro rfl u hu
    simp only [ev] at hu
    split at hu
    · next s heq =>
      rw [heq] at hrel
      obtain rfl := Option.some.inj hu
      have hv : a.eval x = .string ⟨s.toArray⟩ := hrel
      refine does_pure0 h hd (v := .int .i64 s.length) ?_ rfl
      rw [hex, hargs]
      simp [builtin, Builtin.len_, hat, hv, run_underlying ht, ba_size, goInt]
    · simp at hu
  · rintro e rfl u hu
    simp only [ev] at hu
    split at hu
    · next id ver lo hi heq =>
      rw [heq] at hrel
      split at hu
      · next cv s rows hl =>
        split at hu
        · next hver =>
          obtain rfl : ver = cv := by simpa using hver
          obtain rfl := Option.some.inj hu
          obtain ⟨g1, g2, x1, cap, y1, g3, g4, g5, g6⟩ := (hrel _ _ _ hl).2 rfl
          refine does_pure0 h hd (v := .int .i64 (hi - lo : Nat)) ?_ rfl
          rw [hex, hargs]
          simp [builtin, Builtin.len_, hat, g4, run_underlying ht, goInt]
        · simp at hu
      · simp at hu
    · split at hu
      · next rows fz heq =>
        obtain rfl := Option.some.inj hu
        obtain ⟨ad, cap, hv, _, _⟩ := rowsOf_sound h heq hrel
        refine does_pure0 h hd (v := .int .i64 rows.length) ?_ rfl
        rw [hex, hargs]
        simp [builtin, Builtin.len_, hat, hv, run_underlying ht, goInt]
      · simp at hu
  · rintro n e rfl u hu
    simp only [ev] at hu
    obtain rfl := Option.some.inj hu
    refine does_pure0 h hd (v := .int .i64 n) ?_ rfl
    rw [hex, hargs]
    simp [builtin, Builtin.len_, hat, run_underlying ht, goInt]

theorem snd_cap (h : SimG w0 S0 M σ a w S μ β) (hd : ∀ d, o.dst = some d → d < σ.n) {c : Call} {t e : TypeId} {x : Operand} {x' : Opd} (ho : o.op = .call c) (hb : c.callee = .builtin .cap) (hat : c.argTypes[0]? = some t)
    (hal : c.args.toList = [x]) (ht : P.underlying t = some (.slice e)) (hx : compOpd x = some x') :
    ∀ u, ev σ o.dst (.capV x') = some u → Does P o a w (fun v w' => Sim w0 S0 M (σ.apply o.dst u) (a.put o.dst v) w') := by
  have hrel := opd_sound h hx
  obtain ⟨consts, hex⟩ := exec_builtin (a := a) ho hb
  have hargs := toList_one hal
  intro u hu
  simp only [ev] at hu
  split at hu
  · next heq =>
    rw [heq] at hrel
    obtain rfl := Option.some.inj hu
    obtain ⟨ad, hv⟩ := hrel
    refine does_pure0 h hd (v := .int .i64 0) ?_ rfl
    rw [hex, hargs]
    simp [builtin, Builtin.cap_, hat, hv, run_underlying ht, goInt]
  · next rows heq =>
    rw [heq] at hrel
    obtain rfl := Option.some.inj hu
    obtain ⟨_, ad, hv⟩ := hrel
    refine does_pure0 h hd (v := .int .i64 rows.length) ?_ rfl
    rw [hex, hargs]
    simp [builtin, Builtin.cap_, hat, hv, run_underlying ht, goInt]
  · simp at hu

theorem snd_max (h : SimG w0 S0 M σ a w S μ β) (hd : ∀ d, o.dst = some d → d < σ.n) {c : Call} {x y : Operand} {x' y' : Opd} (ho : o.op = .call c) 
    (hal : c.args.toList = [x, y]) (hx : compOpd x = some x') (hy : compOpd y = some y') :
    (c.callee = .builtin .max → ∀ u, ev σ o.dst (.maxI x' y') = some u → Does P o a w (fun v w' => Sim w0 S0 M (σ.apply o.dst u) (a.put o.dst v) w')) ∧
    (c.callee = .builtin .min → ∀ u, ev σ o.dst (.minI x' y') = some u → Does P o a w (fun v w' => Sim w0 S0 M (σ.apply o.dst u) (a.put o.dst v) w')) := by
  have hrel := opd_sound h hx
  have hrel2 := opd_sound h hy
  have hargs := toList_two hal
  refine ⟨fun hb u hu => ?_, fun hb u hu => ?_⟩
  · obtain ⟨consts, hex⟩ := exec_builtin (a := a) ho hb
    simp only [ev] at hu
    split at hu
    · next k m k' n h1 h2 =>
      rw [h1] at hrel
      rw [h2] at hrel2
      split at hu
      · next hk =>
        subst hk
        obtain rfl := Option.some.inj hu
        have hv1 : a.eval x = .int k m := hrel
        have hv2 : a.eval y = .int k n := hrel2
        refine does_pure0 h hd (v := .int k (max m n)) ?_ rfl
        rw [hex, hargs]
        have : (if n > m then n else m) = max m n := by split <;> omega
        simp [builtin, Builtin.max_, Builtin.max2, hv1, hv2, this]
      · simp at hu
    · simp at hu
  · obtain ⟨consts, hex⟩ := exec_builtin (a := a) ho hb
    simp only [ev] at hu
    split at hu
    · next k m k' n h1 h2 =>
      rw [h1] at hrel
      rw [h2] at hrel2
      split at hu
      · next hk =>
        subst hk
        obtain rfl := Option.some.inj hu
        have hv1 : a.eval x = .int k m := hrel
        have hv2 : a.eval y = .int k n := hrel2
        refine does_pure0 h hd (v := .int k (min m n)) ?_ rfl
        rw [hex, hargs]
        have : (if n < m then n else m) = min m n := by split <;> omega
        simp [builtin, Builtin.min_, Builtin.min2, hv1, hv2, this]
      · simp at hu
    · simp at hu

theorem bound_sound (h : SimG w0 S0 M σ a w S μ β) {dflt : Nat} {x : Option Operand} {x' : Option Opd} (hx : compOpt x = some x') {n : Int} (hb : bound σ dflt x' = some n) :
    (x = none ∧ n = dflt) ∨ (∃ y k, x = some y ∧ a.eval y = .int k n) := by
  cases x with
  | none =>
    simp only [compOpt, Option.some.injEq] at hx
    subst hx
    simp only [bound, Option.some.injEq] at hb
    exact .inl ⟨rfl, hb.symm⟩
  | some y =>
    simp only [compOpt, Option.map_eq_some_iff] at hx
    obtain ⟨z, h1, rfl⟩ := hx
    obtain ⟨k, h2⟩ := intOf_sound (opd_sound h h1) hb
    exact .inr ⟨y, k, rfl, h2⟩

theorem run_sliceBound {k : IntKind} {n : Int} {y : Nat} {code : BoundsCode} (h0 : 0 ≤ n) (h1 : n ≤ y) : (Instr.sliceBound (.int k n) y code).run P w = .ok n.toNat w := by
  simp [Instr.sliceBound, asIntOf, h0, h1]

theorem run_sliceBounds (h : SimG w0 S0 M σ a w S μ β) {lo hi : Option Operand} {lo' hi' : Option Opd} (hl : compOpt lo = some lo') (hh : compOpt hi = some hi') {len cap : Nat} {l r : Int}
    (bl : bound σ 0 lo' = some l) (bh : bound σ len hi' = some r) (h0 : 0 ≤ l) (h1 : l ≤ r) (h2 : r ≤ cap) (isS : Bool) :
    (Instr.sliceBounds isS len cap (lo.map a.eval) (hi.map a.eval) none).run P w = .ok (l.toNat, r.toNat, cap) w := by
  rcases bound_sound h hl bl with ⟨rfl, rfl⟩ | ⟨y, k, rfl, hy⟩ <;> rcases bound_sound h hh bh with ⟨rfl, rfl⟩ | ⟨z, k', rfl, hz⟩
  · simp [Instr.sliceBounds]
  · have := run_sliceBound (P := P) (w := w) (k := k') (n := r) (y := cap) (code := if isS then .sliceAcap else .sliceAlen) (by omega) h2
    simp [Instr.sliceBounds, hz, this]
  · have := run_sliceBound (P := P) (w := w) (k := k) (n := l) (y := len) (code := .sliceB) h0 h1
    simp [Instr.sliceBounds, hy, this]
  · have g1 := run_sliceBound (P := P) (w := w) (k := k') (n := r) (y := cap) (code := if isS then .sliceAcap else .sliceAlen) (by omega) h2
    have g2 := run_sliceBound (P := P) (w := w) (k := k) (n := l) (y := r.toNat) (code := .sliceB) h0 (by omega)
    simp [Instr.sliceBounds, hy, hz, g1, g2]

theorem run_sliceBounds3 (h : SimG w0 S0 M σ a w S μ β) {lo hi : Option Operand} {lo' hi' : Option Opd} (hl : compOpt lo = some lo') (hh : compOpt hi = some hi') {len cap : Nat} {l r m : Int} {y : Value} {k0 : IntKind} (hy0 : y = .int k0 m)
    (bl : bound σ 0 lo' = some l) (bh : bound σ len hi' = some r) (h0 : 0 ≤ l) (h1 : l ≤ r) (h2 : r ≤ m) (h3 : m ≤ cap) (hsome : hi ≠ none) (isS : Bool) :
    (Instr.sliceBounds isS len cap (lo.map a.eval) (hi.map a.eval) (some y)).run P w = .ok (l.toNat, r.toNat, m.toNat) w := by
  subst hy0
  have g0 := run_sliceBound (P := P) (w := w) (k := k0) (n := m) (y := cap) (code := if isS then .slice3Acap else .slice3Alen) (by omega) h3
  rcases bound_sound h hl bl with ⟨rfl, rfl⟩ | ⟨y, k, rfl, hy⟩ <;> rcases bound_sound h hh bh with ⟨rfl, rfl⟩ | ⟨z, k', rfl, hz⟩
  · exact absurd rfl hsome
  · have := run_sliceBound (P := P) (w := w) (k := k') (n := r) (y := m.toNat) (code := .slice3B) (by omega) (by omega)
    simp [Instr.sliceBounds, hz, this, g0]
  · exact absurd rfl hsome
  · have g1 := run_sliceBound (P := P) (w := w) (k := k') (n := r) (y := m.toNat) (code := .slice3B) (by omega) (by omega)
    have g2 := run_sliceBound (P := P) (w := w) (k := k) (n := l) (y := r.toNat) (code := .slice3C) h0 (by omega)
    simp [Instr.sliceBounds, hy, hz, g0, g1, g2]

theorem exec_slice {t : TypeId} {x : Operand} {lo hi mx : Option Operand} (ho : o.op = .slice t x lo hi mx) {d : TypeDesc} (ht : P.underlying t = some d) (hn : isAggD d = false) :
    (execOp a.eval o).run P w = ((Instr.slice t (a.eval x) (lo.map a.eval) (hi.map a.eval) (mx.map a.eval)).run P w).andThen fun v w' => .ok (.value v) w' := by
  simp only [execOp, ho, Instr.sliceAt, Sem.run_bind, run_underlying ht, Result.andThen_ok]
  cases d <;> first | rfl | (simp [isAggD] at hn)

theorem snd_subS (h : SimG w0 S0 M σ a w S μ β) (hd : ∀ d, o.dst = some d → d < σ.n) {t : TypeId} {x : Operand} {lo hi : Option Operand} {x' : Opd} {lo' hi' : Option Opd} (ho : o.op = .slice t x lo hi none) (ht : P.underlying t = some .string)
    (hx : compOpd x = some x') (hl : compOpt lo = some lo') (hh : compOpt hi = some hi') {u : Upd} (hu : ev σ o.dst (.subS x' lo' hi') = some u) (hs : u.side) :
    Does P o a w (fun v w' => Sim w0 S0 M (σ.apply o.dst u) (a.put o.dst v) w') := by
  have hrel := opd_sound h hx
  simp only [ev] at hu
  split at hu
  · next s heq =>
    rw [heq] at hrel
    split at hu
    · next l r bl bh =>
      obtain rfl := Option.some.inj hu
      obtain ⟨h0, h1, h2⟩ : 0 ≤ l ∧ l ≤ r ∧ r ≤ s.length := hs
      have hv : a.eval x = .string ⟨s.toArray⟩ := hrel
      refine does_pure0 h hd (v := .string ⟨((s.take r.toNat).drop l.toNat).toArray⟩) ?_ rfl
      rw [exec_slice ho ht rfl]
      have := run_sliceBounds (P := P) (w := w) (len := s.length) (cap := s.length) h hl hh bl bh h0 h1 h2 false
      simp only [Instr.slice, hv, Sem.run_bind, run_underlying ht, Result.andThen_ok, Option.map_none, Option.isSome_none, Bool.false_eq_true, if_false, ba_size, this, Sem.run_pure, ba_extract]
    · simp at hu
  · simp at hu

theorem own_view (h : SimG w0 S0 M σ a w S μ β) {id cv s : Nat} {rows : List (List IV)} (hl : look σ.objs id = some (.arr cv s rows)) {v : Value} (hr : SVRel w S μ σ.objs (.own id cv) v) : SVRel w S μ σ.objs (.view id cv 0 rows.length) v := by
  intro cv' s' rows' hl'
  rw [hl] at hl'
  simp only [Option.some.injEq, Ob.arr.injEq] at hl'
  obtain ⟨rfl, rfl, rfl⟩ := hl'
  have hv := (hr _ _ _ hl).2 rfl
  refine ⟨Nat.le_refl _, fun _ => ⟨Nat.zero_le _, Nat.le_refl _, ?_⟩⟩
  rcases h.objs id _ hl with ⟨z1, _, x, z2⟩ | ⟨b, cap, _, _, _, _, z2, _⟩
  · subst z1
    exact ⟨x, 0, x, z2, by rw [hv, z2]; rfl, fun _ => rfl, fun hh => absurd hh (Nat.lt_irrefl _)⟩
  · exact ⟨_, cap, _, z2, by rw [hv, z2]; rfl, fun _ => rfl, fun _ => ⟨b, rfl, by simp⟩⟩

theorem snd_evSub (h : SimG w0 S0 M σ a w S μ β) (hd : ∀ d, o.dst = some d → d < σ.n) {t e : TypeId} {s : Nat} {x : Operand} {lo hi mx : Option Operand} {lo' hi' mx' : Option Opd} (ho : o.op = .slice t x lo hi mx) (ht : P.underlying t = some (.slice e)) (hsz : sizeT P e = some s)
    (hl : compOpt lo = some lo') (hh : compOpt hi = some hi') (hm : compOpt mx = some mx') {id cv s' lo0 hi0 : Nat} {rows : List (List IV)} (hlk : look σ.objs id = some (.arr cv s' rows)) (hrel : SVRel w S μ σ.objs (.view id cv lo0 hi0) (a.eval x))
    {u : Upd} (hu : evSub σ s id cv s' lo0 hi0 rows.length lo' hi' mx' = some u) (hs : u.side) :
    Does P o a w (fun v w' => Sim w0 S0 M (σ.apply o.dst u) (a.put o.dst v) w') := by
  obtain ⟨g1, g2, x1, cap, y1, g3, g4, g5, g6⟩ := (hrel _ _ _ hlk).2 rfl
  have hcap : rows.length ≤ cap := by
    rcases h.objs id _ hlk with ⟨z1, _, x, z2⟩ | ⟨b, cap', _, _, _, _, z2, _, _, _, z3, _⟩
    · rw [z2] at g3; simp only [Value.slice.injEq] at g3; omega
    · rw [z2] at g3; simp only [Value.slice.injEq] at g3; omega
  unfold evSub at hu
  split at hu
  · next l r bl bh =>
    split at hu
    · obtain rfl := Option.some.inj hu
      obtain ⟨⟨h0, h1, h2⟩, hst⟩ : (0 ≤ l ∧ l ≤ r ∧ r ≤ (rows.length - lo0 : Nat)) ∧ s' = s := hs
      subst hst
      have hmx : mx = none := by
        cases mx with
        | none => rfl
        | some y => simp [compOpt] at hm
      subst hmx
      refine does_pure0 h hd (v := .slice (if cap - lo0 = l.toNat then y1 else y1.map (·.add (l.toNat * s'))) (r.toNat - l.toNat) (cap - lo0 - l.toNat)) ?_ ?_
      · rw [exec_slice ho ht rfl]
        have := run_sliceBounds (P := P) (w := w) (len := hi0 - lo0) (cap := cap - lo0) h hl hh bl bh h0 h1 (by omega) true
        simp only [Instr.slice, g4, Sem.run_bind, run_underlying ht, Result.andThen_ok, Option.map_none, this, run_sizeT hsz, Sem.run_pure]
      · intro cv' s'' rows' hl'
        rw [hlk] at hl'
        simp only [Option.some.injEq, Ob.arr.injEq] at hl'
        obtain ⟨rfl, rfl, rfl⟩ := hl'
        refine ⟨Nat.le_refl _, fun _ => ⟨by omega, by omega, x1, cap, (if cap - lo0 = l.toNat then y1 else y1.map (·.add (l.toNat * s'))), g3, ?_, fun hz => ?_, fun hlt => ?_⟩⟩
        · congr 1 <;> omega
        · have : l.toNat = 0 := by omega
          have hz0 : lo0 = 0 := by omega
          rw [this]
          split
          · exact g5 hz0
          · rw [g5 hz0]
            cases x1 with
            | none => rfl
            | some ad => simp [Addr.add]
        · obtain ⟨b, k1, k2⟩ := g6 (by omega)
          refine ⟨b, k1, ?_⟩
          rw [if_neg (by omega), k2]
          simp [add_none, Nat.add_mul]
    · next m =>
      split at hu
      · next n hn =>
        obtain ⟨y, rfl⟩ : ∃ y, mx = some y := by
          cases mx with
          | none => simp [compOpt] at hm
          | some y => exact ⟨y, rfl⟩
        simp only [compOpt, Option.map_eq_some_iff, Option.some.injEq] at hm
        obtain ⟨z, hz, rfl⟩ := hm
        obtain ⟨k, hyv⟩ := intOf_sound (opd_sound h hz) hn
        obtain rfl := Option.some.inj hu
        obtain ⟨h0, h1, h2, h3, hsome⟩ : 0 ≤ l ∧ l ≤ r ∧ r ≤ n ∧ n ≤ (hi0 - lo0 : Nat) ∧ hi'.isSome = true := hs
        have hhi : hi ≠ none := by
          rintro rfl
          simp only [compOpt, Option.some.injEq] at hh
          subst hh; simp at hsome
        refine does_pure0 h hd (v := .slice (if n.toNat = l.toNat then y1 else y1.map (·.add (l.toNat * s))) (r.toNat - l.toNat) (n.toNat - l.toNat)) ?_ trivial
        rw [exec_slice ho ht rfl]
        have := run_sliceBounds3 (P := P) (w := w) (len := hi0 - lo0) (cap := cap - lo0) h hl hh hyv bl bh h0 h1 h2 (by omega) hhi true
        simp only [Option.map_some]
        simp only [Instr.slice, g4, Sem.run_bind, run_underlying ht, Result.andThen_ok, this, run_sizeT hsz, Sem.run_pure]
      · simp at hu
  · simp at hu

theorem snd_subV (h : SimG w0 S0 M σ a w S μ β) (hd : ∀ d, o.dst = some d → d < σ.n) {t e : TypeId} {s : Nat} {x : Operand} {lo hi mx : Option Operand} {x' : Opd} {lo' hi' mx' : Option Opd} (ho : o.op = .slice t x lo hi mx) (ht : P.underlying t = some (.slice e)) (hsz : sizeT P e = some s)
    (hx : compOpd x = some x') (hl : compOpt lo = some lo') (hh : compOpt hi = some hi') (hm : compOpt mx = some mx') {u : Upd} (hu : ev σ o.dst (.subV s x' lo' hi' mx') = some u) (hs : u.side) :
    Does P o a w (fun v w' => Sim w0 S0 M (σ.apply o.dst u) (a.put o.dst v) w') := by
  have hrel := opd_sound h hx
  simp only [ev] at hu
  split at hu
  · next id ver heq =>
    rw [heq] at hrel
    split at hu
    · next cv s' rows hlk =>
      split at hu
      · next hver =>
        obtain rfl : ver = cv := by simpa using hver
        exact snd_evSub h hd ho ht hsz hl hh hm hlk (own_view h hlk hrel) hu hs
      · simp at hu
    · simp at hu
  · next id ver lo0 hi0 heq =>
    rw [heq] at hrel
    split at hu
    · next cv s' rows hlk =>
      split at hu
      · next hver =>
        obtain rfl : ver = cv := by simpa using hver
        exact snd_evSub h hd ho ht hsz hl hh hm hlk hrel hu hs
      · simp at hu
    · simp at hu
  split at hu
  · next rows rd heq =>
    obtain ⟨ad, cap, hv, hle, hc⟩ := rowsOf_sound h heq hrel
    split at hu
    · next l r bl bh =>
      -- the piece, wherever it stands
      have piece : ∀ (c' : Nat), 0 ≤ l → l ≤ r → r ≤ rows.length → c' ≥ (r - l).toNat → (∀ z, z = l.toNat * s → ∃ ad', (if c' = cap ∧ l.toNat = 0 then ad else ad.map (·.add z)) = ad') →
          ∀ ad', ((rows.take r.toNat).drop l.toNat ≠ [] → ∃ b off s', ad = some ⟨b, off, none⟩ ∧ RepRows w (Plus S β σ.objs rd) rows s' b off ∧ ad' = some ⟨b, off + l.toNat * s', none⟩) →
          Rep w (Plus S β σ.objs rd) (.slice ((rows.take r.toNat).drop l.toNat)) (.slice ad' (r.toNat - l.toNat) c') := by
        intro c' h0 h1 h2 hc' _ ad' hne
        have hlen : ((rows.take r.toNat).drop l.toNat).length = r.toNat - l.toNat := by
          rw [List.length_drop, List.length_take]; omega
        refine ⟨ad', c', by rw [hlen], by rw [hlen]; omega, fun hn => ?_⟩
        obtain ⟨b, off, s', _, hrows, rfl⟩ := hne hn
        exact ⟨b, _, s', rfl, RepRows.drop _ (RepRows.take _ hrows)⟩
      -- the stride is the type's
      have addr : ∀ (ne : (rows.take r.toNat).drop l.toNat ≠ []) (c : Prop) [Decidable c], (c → l.toNat = 0) → s ≠ 0 ∨ True →
          (∀ row ∈ rows, row.length = s) → ∃ b off s', ad = some ⟨b, off, none⟩ ∧ RepRows w (Plus S β σ.objs rd) rows s' b off ∧ (if c then ad else ad.map (·.add (l.toNat * s))) = some ⟨b, off + l.toNat * s', none⟩ := by
        intro ne c _ hc0 _ hst
        have hrne : rows ≠ [] := by intro e; subst e; simp at ne
        obtain ⟨b, off, s', rfl, hrows⟩ := hc hrne
        refine ⟨b, off, s', rfl, hrows, ?_⟩
        obtain ⟨row, hrow⟩ := List.exists_mem_of_ne_nil rows hrne
        have : s' = s := (RepRows.lens hrows row hrow).symm.trans (hst row hrow)
        subst this
        by_cases hcc : c
        · rw [if_pos hcc, hc0 hcc]; simp
        · rw [if_neg hcc]; simp [add_none]
      split at hu
      · obtain rfl := Option.some.inj hu
        obtain ⟨⟨h0, h1, h2⟩, hst⟩ : (0 ≤ l ∧ l ≤ r ∧ r ≤ rows.length) ∧ ∀ row ∈ rows, row.length = s := hs
        have hmx : mx = none := by
          cases mx with
          | none => rfl
          | some y => simp [compOpt] at hm
        subst hmx
        refine does_pure h hd (v := .slice (if cap = l.toNat then ad else ad.map (·.add (l.toNat * s))) (r.toNat - l.toNat) (cap - l.toNat)) ?_ ?_
        · rw [exec_slice ho ht rfl]
          have := run_sliceBounds (P := P) (w := w) (len := rows.length) (cap := cap) h hl hh bl bh h0 h1 (by omega) true
          simp only [Instr.slice, hv, Sem.run_bind, run_underlying ht, Result.andThen_ok, Option.map_none, this, run_sizeT hsz, Sem.run_pure]
        · have hpl : Rep w (Plus S β σ.objs rd) (.slice ((rows.take r.toNat).drop l.toNat)) (.slice (if cap = l.toNat then ad else ad.map (·.add (l.toNat * s))) (r.toNat - l.toNat) (cap - l.toNat)) := by
            refine piece _ h0 h1 h2 (by omega) (fun z _ => ⟨_, rfl⟩) _ (fun ne => ?_)
            by_cases hcl : cap = l.toNat
            · exfalso
              have : ((rows.take r.toNat).drop l.toNat).length = 0 := by rw [List.length_drop, List.length_take]; omega
              exact ne (List.length_eq_zero_iff.1 this)
            · rw [if_neg hcl]
              have := addr ne False (fun x => x.elim) (.inr trivial) hst
              simpa using this
          unfold subR
          split
          · next hxx =>
            rw [hxx] at hrel heq
            obtain ⟨ad2, hv2⟩ := hrel
            rw [hv] at hv2
            simp only [Value.slice.injEq] at hv2
            obtain ⟨_, e1, e2⟩ := hv2
            refine ⟨if cap = l.toNat then ad else ad.map (·.add (l.toNat * s)), ?_⟩
            rw [show r.toNat - l.toNat = 0 by omega, show cap - l.toNat = 0 by omega]
          · next rws hxx =>
            rw [hxx] at hrel heq
            cases hr0 : (r == 0) with
            | false => exact hpl
            | true =>
              have hr0 : r = 0 := by simpa using hr0
              obtain ⟨_, ad2, hv2⟩ := hrel
              rw [hv] at hv2
              simp only [Value.slice.injEq] at hv2
              obtain ⟨_, e1, e2⟩ := hv2
              refine ⟨if cap = l.toNat then ad else ad.map (·.add (l.toNat * s)), ?_⟩
              rw [show r.toNat - l.toNat = 0 by omega, show cap - l.toNat = rws.length by omega]
          · exact hpl
      · next m =>
        split at hu
        · next n hn =>
          obtain ⟨y, rfl⟩ : ∃ y, mx = some y := by
            cases mx with
            | none => simp [compOpt] at hm
            | some y => exact ⟨y, rfl⟩
          simp only [compOpt, Option.map_eq_some_iff, Option.some.injEq] at hm
          obtain ⟨z, hz, rfl⟩ := hm
          obtain ⟨k, hyv⟩ := intOf_sound (opd_sound h hz) hn
          split at hu
          · next hn0 =>
            obtain rfl := Option.some.inj hu
            obtain ⟨h0, h1, hsome⟩ : l = 0 ∧ r = 0 ∧ hi'.isSome = true := hs
            subst hn0
            have hhi : hi ≠ none := by
              rintro rfl
              simp only [compOpt, Option.some.injEq] at hh
              subst hh; simp at hsome
            refine does_pure0 h hd (v := .slice ad 0 0) ?_ ⟨ad, rfl⟩
            rw [exec_slice ho ht rfl]
            have := run_sliceBounds3 (P := P) (w := w) (len := rows.length) (cap := cap) h hl hh hyv bl bh (by omega) (by omega) (by omega) (by omega) hhi true
            simp only [Option.map_some]
            simp only [Instr.slice, hv, Sem.run_bind, run_underlying ht, Result.andThen_ok, this, run_sizeT hsz, Sem.run_pure]
            subst h0; subst h1
            simp
          · next hn0 =>
            obtain rfl := Option.some.inj hu
            obtain ⟨⟨h0, h1, h2, h3, hsome⟩, hst⟩ : (0 ≤ l ∧ l ≤ r ∧ r = n ∧ r ≤ rows.length ∧ hi'.isSome = true) ∧ ∀ row ∈ rows, row.length = s := hs
            have hhi : hi ≠ none := by
              rintro rfl
              simp only [compOpt, Option.some.injEq] at hh
              subst hh; simp at hsome
            refine does_pure h hd (v := .slice (if n.toNat = l.toNat then ad else ad.map (·.add (l.toNat * s))) (r.toNat - l.toNat) (n.toNat - l.toNat)) ?_ ⟨?_, ?_⟩
            · rw [exec_slice ho ht rfl]
              have := run_sliceBounds3 (P := P) (w := w) (len := rows.length) (cap := cap) h hl hh hyv bl bh h0 h1 (by omega) (by omega) hhi true
              simp only [Option.map_some]
              simp only [Instr.slice, hv, Sem.run_bind, run_underlying ht, Result.andThen_ok, this, run_sizeT hsz, Sem.run_pure]
            · refine piece _ h0 h1 h3 (by omega) (fun z _ => ⟨_, rfl⟩) _ (fun ne => ?_)
              by_cases hcl : n.toNat = l.toNat
              · exfalso
                have : ((rows.take r.toNat).drop l.toNat).length = 0 := by rw [List.length_drop, List.length_take]; omega
                exact ne (List.length_eq_zero_iff.1 this)
              · rw [if_neg hcl]
                have := addr ne False (fun x => x.elim) (.inr trivial) hst
                simpa using this
            · refine ⟨if n.toNat = l.toNat then ad else ad.map (·.add (l.toNat * s)), ?_⟩
              have hlen : ((rows.take r.toNat).drop l.toNat).length = r.toNat - l.toNat := by
                rw [List.length_drop, List.length_take]; omega
              rw [hlen, h2]
        · simp at hu
    · simp at hu
  · simp at hu

/-- A new object, and its handle. -/
theorem does_new (h : SimG w0 S0 M σ a w S μ β) {d : Nat} (hdst : o.dst = some d) (hd : d < σ.n) {ob : Ob} {sv : SV} {fz : List Nat} {side : Prop} [Decidable side] {blk : Option Nat} {mu v : Value} {w' : World}
    (hrun : (execOp a.eval o).run P w = .ok (.value v) w') (hw : Kept (fun _ => False) w w') (hblk : ∀ b, blk = some b → b = w.heap.size)
    (hob : ObRel w' (Plus S β σ.objs fz) μ σ.objs blk mu ob)
    (hv : (∃ cells, ob = .box cells) ∧ sv = .loc d 0 ∧ v = mu ∧ (∃ b, mu = .pointer (some ⟨b, 0, none⟩)) ∨ (∃ s rows, ob = .arr 0 s rows) ∧ sv = .own d 0 ∧ v = mu) :
    Does P o a w (fun v w' => Sim w0 S0 M (σ.apply o.dst { v := sv, side := side, new := some ob, fz := fz }) (a.put o.dst v) w') := by
  refine ⟨_, v, w', hrun, .inl rfl, Plus S β σ.objs fz, (fun id => if id = d then mu else μ id), (fun id => if id = d then blk else β id), ?_⟩
  rw [hdst]
  have h1 := (h.freeze fz).create d hd ob blk mu hw hblk hob
  refine h1.put hd ?_
  rcases hv with ⟨⟨cells, rfl⟩, rfl, rfl, b, rfl⟩ | ⟨⟨s, rows, rfl⟩, rfl, rfl⟩
  · intro cells' _
    exact ⟨b, by simp, rfl⟩
  · intro cv s' rows' hl
    rw [look_eraseO, look_put_self] at hl
    simp only [Option.map_some, Ob.erase, Option.some.injEq, Ob.arr.injEq] at hl
    obtain ⟨rfl, _, _⟩ := hl
    exact ⟨Nat.le_refl _, fun _ => by simp⟩

theorem does_newT (h : SimG w0 S0 M σ a w S μ β) {d : Nat} (hdst : o.dst = some d) (hd : d < σ.n) {ob : Ob} {sv : SV} {fz : List Nat} {side : Prop} [Decidable side] {blk : Option Nat} {mu v : Value} {w' : World}
    (hrun : (execOp a.eval o).run P w = .ok (.value v) w') (hw : Kept (fun _ => False) w w') (hblk : ∀ b, blk = some b → b = w.heap.size)
    (hob : ObRel w' (Plus S β σ.objs fz) μ σ.objs blk mu ob)
    (hv : (∃ s rows ln, ob = .tab 0 s rows ln) ∧ sv = .town d 0 ∧ v = mu) :
    Does P o a w (fun v w' => Sim w0 S0 M (σ.apply o.dst { v := sv, side := side, new := some ob, fz := fz }) (a.put o.dst v) w') := by
  refine ⟨_, v, w', hrun, .inl rfl, Plus S β σ.objs fz, (fun id => if id = d then mu else μ id), (fun id => if id = d then blk else β id), ?_⟩
  rw [hdst]
  have h1 := (h.freeze fz).create d hd ob blk mu hw hblk hob
  refine h1.put hd ?_
  obtain ⟨⟨s, rows, ln, rfl⟩, rfl, rfl⟩ := hv
  intro cv s' rows' ln' hl
  rw [look_eraseO, look_put_self] at hl
  simp only [Option.map_some, Ob.erase, Option.some.injEq, Ob.tab.injEq] at hl
  obtain ⟨rfl, _, _⟩ := hl
  exact ⟨Nat.le_refl _, fun _ => by simp⟩
/-- What is known of the cells that a slice is made of. -/
theorem lnRows_rel {w : World} {S : Stab} {μ : Nat → Value} {objs : List (Nat × Ob)} {s n : Nat} {vs : List Value} (hpos : 0 < s) : ∀ {cells : List SV} {us : List Value} {k : Nat}, SVOnes w S μ objs cells us → (∀ j v, us[j]? = some v → vs[k + j]? = some v) → k + cells.length ≤ n * s → LnRel w S μ objs s n vs (lnRows s k cells)
  | [], _, _, _, _, _ => trivial
  | c :: cs, _, k, ⟨u, us, h1, h0, h2, h3⟩, hv, hk => by
    subst h1
    simp only [List.length_cons] at hk
    have ih := lnRows_rel (n := n) (vs := vs) hpos (k := k + 1) h3 (fun j v hj => by
      have := hv (j + 1) v (by simpa using hj)
      rw [← this]; congr 1; omega) (by omega)
    simp only [lnRows]
    cases linkable c with
    | false => exact ih
    | true =>
      refine ⟨⟨?_, Nat.mod_lt _ hpos, u, ?_, h2⟩, ih⟩
      · exact (Nat.div_lt_iff_lt_mul hpos).2 (by omega)
      · show vs[k / s * s + k % s]? = some u
        rw [Nat.div_add_mod']
        exact hv 0 u rfl

theorem kept_alloc (w : World) (x : Go.Obj) : Kept (fun _ => False) w (w.alloc x) :=
  ⟨rfl, rfl, rfl, by simp, fun _ hk _ => heap_alloc_lt hk, fun k x hx => (shape_of_heap (heap_alloc_lt (shape_lt hx))).trans hx⟩
theorem keeps_alloc (h : SimG w0 S0 M σ a w S μ β) (x : Go.Obj) : Keeps S w (w.alloc x) := ⟨fun b o hS => cell_of_heap (heap_alloc_lt (h.stab b o hS)) o, (kept_alloc w x).shape⟩

theorem zeroT_some {t : TypeId} {z : List SV} (h : zeroT P t = some z) : ∃ i v, P.info? t = some i ∧ i.zero = some v ∧ constSVs v.cells.toList = some z := by
  unfold zeroT at h
  split at h
  · next v hv =>
    cases hi : P.info? t with
    | none => rw [hi] at hv; simp at hv
    | some i => rw [hi] at hv; exact ⟨i, v, rfl, by simpa using hv, h⟩
  · simp at h
theorem run_ti {t : TypeId} {i : TypeInfo} (h : P.info? t = some i) (w : World) : (typeInfo t).run P w = .ok i w := by simp [typeInfo, h]
theorem run_zeroValue {t : TypeId} {i : TypeInfo} {v : Value} (h : P.info? t = some i) (hz : i.zero = some v) (w : World) : (zeroValue t).run P w = .ok v w := by
  simp [zeroValue, typeInfo, h, hz]

theorem snd_alloc (h : SimG w0 S0 M σ a w S μ β) (hd : ∀ d, o.dst = some d → d < σ.n) {t : TypeId} {z : List SV} (ho : o.op = .alloc t) (hz : zeroT P t = some z) {u : Upd} (hu : ev σ o.dst (.alloc z) = some u) :
    Does P o a w (fun v w' => Sim w0 S0 M (σ.apply o.dst u) (a.put o.dst v) w') := by
  obtain ⟨i, v, h1, h2, h3⟩ := zeroT_some hz
  simp only [ev] at hu
  split at hu
  · next d hdst =>
    obtain rfl := Option.some.inj hu

    refine does_new h hdst (hd d hdst) (blk := some w.heap.size) (mu := .pointer (some ⟨w.heap.size, 0, none⟩)) (v := .pointer (some ⟨w.heap.size, 0, none⟩)) (w' := w.alloc (.cells v.cells t)) ?_ (kept_alloc _ _) (fun b hb => (Option.some.inj hb).symm) ?_ (.inl ⟨⟨_, rfl⟩, rfl, rfl, _, rfl⟩)
    · simp [execOp, ho, Instr.alloc, run_zeroValue h1 h2, newVar, newRow]
    · exact ⟨_, v.cells, t, (0, 0), rfl, rfl, heap_alloc_at _ _, NoFrz.zero _, constSVs_sound h3⟩
  · simp at hu

theorem isB_zero {t : TypeId} (h : isB P t = true) : ∃ i v, P.info? t = some i ∧ i.zero = some v ∧ v.cells.toList = [.pointer none, .slice none 0 0] := by
  unfold isB at h
  split at h
  · next n z hn hz =>
    simp only [Bool.and_eq_true] at h
    cases hi : P.info? t with
    | none => rw [hi] at hz; simp at hz
    | some i =>
      rw [hi] at hz
      refine ⟨i, z, rfl, by simpa using hz, ?_⟩
      have := h.2
      split at this
      · next h' => exact h'
      · simp at this
  · simp at h
theorem snd_allocB (h : SimG w0 S0 M σ a w S μ β) (hd : ∀ d, o.dst = some d → d < σ.n) {t : TypeId} (ho : o.op = .alloc t) (hb : isB P t = true) {u : Upd} (hu : ev σ o.dst (.allocB t) = some u) :
    Does P o a w (fun v w' => Sim w0 S0 M (σ.apply o.dst u) (a.put o.dst v) w') := by
  obtain ⟨i, v, h1, h2, h3⟩ := isB_zero hb
  simp only [ev] at hu
  split at hu
  · next d hdst =>
    obtain rfl := Option.some.inj hu
    have hrun : (execOp a.eval o).run P w = .ok (.value (.pointer (some ⟨w.heap.size, 0, none⟩))) (w.alloc (.cells v.cells t)) := by
      simp [execOp, ho, Instr.alloc, run_zeroValue h1 h2, newVar, newRow]
    refine ⟨_, _, _, hrun, .inl rfl, Plus S β σ.objs [], (fun id => if id = d then .pointer (some ⟨w.heap.size, 0, none⟩) else μ id), (fun id => if id = d then some w.heap.size else β id), ?_⟩
    rw [hdst]
    have hob : ObRel (w.alloc (.cells v.cells t)) (Plus S β σ.objs []) μ σ.objs (some w.heap.size) (.pointer (some ⟨w.heap.size, 0, none⟩)) (.box [.val .nilp, .val .nilS]) :=
      ⟨_, v.cells, t, (0, 0), rfl, rfl, heap_alloc_at _ _, NoFrz.zero _, by rw [h3]; exact ⟨_, _, rfl, rfl, rfl, _, _, rfl, rfl, rfl, rfl⟩⟩
    have h4 := (h.freeze []).create d (hd d hdst) (.box [.val .nilp, .val .nilS]) (some w.heap.size) (.pointer (some ⟨w.heap.size, 0, none⟩)) (kept_alloc _ _) (fun b hb => (Option.some.inj hb).symm) hob
    refine h4.put (hd d hdst) ?_
    intro cells' _
    refine ⟨w.heap.size, by simp, ?_, .inr rfl⟩
    have hs : v.cells.size = 2 := by rw [← Array.length_toList, h3]; rfl
    simp only [World.shape?]
    rw [heap_alloc_at]
    simp [hs]
  · simp at hu

theorem snd_box (h : SimG w0 S0 M σ a w S μ β) (hd : ∀ d, o.dst = some d → d < σ.n) {t : TypeId} {x : Operand} {x' : Opd} (ho : o.op = .box t x) (hx : compOpd x = some x') {u : Upd} (hu : ev σ o.dst (.box x') = some u) :
    Does P o a w (fun v w' => Sim w0 S0 M (σ.apply o.dst u) (a.put o.dst v) w') := by
  have hrel := opd_sound h hx
  simp only [ev] at hu
  split at hu
  · next d cs hdst hcs =>
    obtain rfl := Option.some.inj hu

    refine does_new h hdst (hd d hdst) (blk := some w.heap.size) (mu := .pointer (some ⟨w.heap.size, 0, none⟩)) (v := .pointer (some ⟨w.heap.size, 0, none⟩)) (w' := w.alloc (.cells (a.eval x).cells t)) ?_ (kept_alloc _ _) (fun b hb => (Option.some.inj hb).symm) ?_ (.inl ⟨⟨_, rfl⟩, rfl, rfl, _, rfl⟩)
    · simp [execOp, ho, Instr.box, newVar, newRow]
    · exact ⟨_, (a.eval x).cells, t, (0, 0), rfl, rfl, heap_alloc_at _ _, NoFrz.zero _, SVOnes.mono (keeps_alloc h _) Plus.nil _ _ (cellsOf_sound h hrel hcs)⟩
  · simp at hu

/- The parts of a literal. -/
theorem foldl_set : ∀ (vs : List Value) (k off : Nat) (cells : Array Value), off + k + vs.length ≤ cells.size →
    ((vs.zipIdx k).foldl (fun cs (p : Value × Nat) => cs.setIfInBounds (off + p.2) p.1) cells).toList = cells.toList.take (off + k) ++ vs ++ cells.toList.drop (off + k + vs.length)
  | [], k, off, cells, _ => by simp
  | v :: vs, k, off, cells, h => by
    simp only [List.length_cons] at h
    simp only [List.zipIdx_cons, List.foldl_cons]
    rw [foldl_set vs (k + 1) off _ (by simp; omega)]
    have hlt : off + k < cells.toList.length := by simp; omega
    simp only [Array.toList_setIfInBounds, List.length_cons]
    have e1 : (cells.toList.set (off + k) v).take (off + (k + 1)) = cells.toList.take (off + k) ++ [v] := by
      rw [show off + (k + 1) = (off + k) + 1 by omega, List.take_succ_eq_append_getElem (by simpa using hlt), List.take_set_of_le (Nat.le_refl _)]
      simp
    have e2 : (cells.toList.set (off + k) v).drop (off + (k + 1) + vs.length) = cells.toList.drop (off + k + (vs.length + 1)) := by
      rw [List.drop_set_of_lt (by omega)]
      congr 1; omega
    rw [e1, e2]
    simp

theorem fill_sound (h : SimG w0 S0 M σ a w S μ β) {place : Nat → Option (Nat × Nat)} : ∀ {parts : List (Nat × Operand)} {parts' : List (Nat × Nat × Opd)} {cells cells' : List SV} {vs : Array Value},
    compParts place parts = some parts' → SVOnes w S μ σ.objs cells vs.toList → fillSV σ.objs σ cells parts' = some cells' →
    ∃ vs', Instr.fill place vs (parts.map fun (i, x) => (i, a.eval x)) = some vs' ∧ SVOnes w S μ σ.objs cells' vs'.toList
  | [], parts', cells, cells', vs, hc, hr, hf => by
    simp only [compParts, Option.some.injEq] at hc
    subst hc
    simp only [fillSV, Option.some.injEq] at hf
    subst hf
    exact ⟨vs, rfl, hr⟩
  | (i, x) :: r, parts', cells, cells', vs, hc, hr, hf => by
    simp only [compParts] at hc
    split at hc
    · next off s y ys hp hx hys =>
      simp only [Option.some.injEq] at hc
      subst hc
      simp only [fillSV] at hf
      split at hf
      · next cs hcs =>
        split at hf
        · next hcond =>
          obtain ⟨hl, hle⟩ := hcond
          have hcr := cellsOf_sound h (opd_sound h hx) hcs
          have hlen := SVOnes.length hcr
          have hlen' := SVOnes.length hr
          simp only [Array.length_toList] at hlen hlen'
          have hnew : SVOnes w S μ σ.objs (cells.take off ++ cs ++ cells.drop (off + s)) (((a.eval x).cells.toList.zipIdx 0).foldl (fun cs (p : Value × Nat) => cs.setIfInBounds (off + p.2) p.1) vs).toList := by
            rw [foldl_set _ 0 off vs (by simp; omega)]
            simp only [Nat.add_zero, Array.length_toList]
            rw [show off + (a.eval x).cells.size = off + s by omega]
            exact SVOnes.append (SVOnes.append (SVOnes.take off hr) hcr) (SVOnes.drop _ hr)
          obtain ⟨vs', h1, h2⟩ := fill_sound h hys hnew hf
          refine ⟨vs', ?_, h2⟩
          simp only [List.map_cons, Instr.fill, hp]
          rw [if_neg (by simp; omega)]
          rw [← h1]
          congr 1
          rw [← Array.foldl_toList, Array.toList_zipIdx]
        · simp at hf
      · simp at hf
    · simp at hc

theorem run_places {fs : List Field} (hf : fs.all (fun f => (sizeT P f.type).isSome) = true) : ∀ w : World,
    (fs.mapM (m := Sem) fun f => do pure (f.offset, ← sizeOf f.type)).run P w = .ok (fs.map fun f => (f.offset, (sizeT P f.type).getD 0)) w := by
  induction fs with
  | nil => intro w; simp
  | cons f r ih =>
    intro w
    simp only [List.all_cons, Bool.and_eq_true] at hf
    obtain ⟨n, hn⟩ := Option.isSome_iff_exists.1 hf.1
    simp only [List.mapM_cons, Sem.run_bind, run_sizeT hn, Result.andThen_ok, Sem.run_pure, ih hf.2, List.map_cons, hn, Option.getD_some]

theorem snd_build (h : SimG w0 S0 M σ a w S μ β) (hd : ∀ d, o.dst = some d → d < σ.n) {t : TypeId} {parts : Array (Nat × Operand)} {z : List SV} {place : Nat → Option (Nat × Nat)} {parts' : List (Nat × Nat × Opd)} (ho : o.op = .build t parts) (hz : zeroT P t = some z)
    (hpl : (∃ fs, P.underlying t = some (.struct fs) ∧ place = placesF P fs ∧ fs.toList.all (fun f => (sizeT P f.type).isSome) = true) ∨ (∃ n e s, P.underlying t = some (.array n e) ∧ sizeT P e = some s ∧ place = fun i => some (i * s, s)))
    (hp : compParts place parts.toList = some parts') {u : Upd} (hu : ev σ o.dst (.build z parts') = some u) :
    Does P o a w (fun v w' => Sim w0 S0 M (σ.apply o.dst u) (a.put o.dst v) w') := by
  obtain ⟨i, zv, h1, h2, h3⟩ := zeroT_some hz
  simp only [ev] at hu
  split at hu
  · next cells hf =>
    obtain rfl := Option.some.inj hu
    obtain ⟨vs, h4, h5⟩ := fill_sound h hp (constSVs_sound (objs := σ.objs) h3) hf
    refine does_pure0 h hd (v := .agg vs) ?_ (by have := mkAgg_sound h5; simpa using this)
    have hmap : (parts.map fun (p : Nat × Operand) => (p.1, a.eval p.2)).toList = parts.toList.map fun (p : Nat × Operand) => (p.1, a.eval p.2) := by simp
    rcases hpl with ⟨fs, ht, rfl, hall⟩ | ⟨n, e, s, ht, hs, rfl⟩
    · have hplaces : (fs.mapM (m := Sem) fun f => do pure (f.offset, ← sizeOf f.type)).run P w = .ok (fs.map fun f => (f.offset, (sizeT P f.type).getD 0)) w := by
        rw [Array.mapM_eq_mapM_toList]
        simp only [Sem.run_map, run_places hall, Result.andThen_ok]
        congr 1
        apply Array.toList_inj.1
        simp
      have hpe : (fun i => (fs.map fun f => (f.offset, (sizeT P f.type).getD 0))[i]?) = placesF P fs := by
        funext i
        simp only [Array.getElem?_map, placesF]
        cases hfi : fs[i]? with
        | none => rfl
        | some f =>
          have hmem : f ∈ fs.toList := List.mem_of_getElem? (by simpa using hfi)
          have := List.all_eq_true.1 hall f hmem
          obtain ⟨n, hn⟩ := Option.isSome_iff_exists.1 this
          simp [hn]
      simp only [execOp, ho, Instr.build, Sem.run_bind, run_zeroValue h1 h2, Result.andThen_ok, run_underlying ht, hplaces, hpe, hmap]
      rw [h4]
      simp
    · simp only [execOp, ho, Instr.build, Sem.run_bind, run_zeroValue h1 h2, Result.andThen_ok, run_underlying ht, run_sizeT hs, hmap]
      rw [h4]
      simp
  · simp at hu

theorem toList_range_map (zero : Array Value) (s : Nat) (hs : zero.size = s) (hpos : 0 < s) : ∀ n, ((Array.range (n * s)).map (fun i => zero[i % zero.size]!)).toList = repeatL zero.toList n := by
  intro n
  induction n with
  | zero => simp [repeatL]
  | succ n ih =>
    have ih' : (List.range (n * s)).map (fun i => zero[i % zero.size]!) = repeatL zero.toList n := by simpa using ih
    have : (List.range ((n + 1) * s)).map (fun i => zero[i % zero.size]!) = repeatL zero.toList (n + 1) := by
      rw [show (n + 1) * s = s + n * s by rw [Nat.add_mul]; omega, List.range_add, List.map_append, List.map_map]
      simp only [repeatL]
      congr 1
      · apply List.ext_getElem
        · simp [hs]
        · intro i h1 h2
          simp only [List.length_map, List.length_range] at h1
          simp only [List.getElem_map, List.getElem_range, Array.getElem_toList]
          rw [Nat.mod_eq_of_lt (by omega)]
          rw [getElem!_pos zero i (by omega)]
      · rw [← ih']
        apply List.map_congr_left
        intro i _
        simp only [Function.comp]
        rw [← hs, Nat.add_mod_left]
    simpa using this
theorem SVOnes.repeat {objs : List (Nat × Ob)} {z : List SV} {vs : List Value} (h : SVOnes w S μ objs z vs) : ∀ n, SVOnes w S μ objs (repeatL z n) (repeatL vs n)
  | 0 => rfl
  | n + 1 => SVOnes.append h (SVOnes.repeat h n)
theorem chunks_flatten {α : Type} {s : Nat} : ∀ {n : Nat} {l : List α}, l.length = n * s → (chunks s n l).flatten = l ∧ (chunks s n l).length = n ∧ ∀ r ∈ chunks s n l, r.length = s
  | 0, l, h => by
    have : l = [] := List.length_eq_zero_iff.1 (by simpa using h)
    subst this
    simp [chunks]
  | n + 1, l, h => by
    rw [Nat.add_mul] at h
    obtain ⟨h1, h2, h3⟩ := chunks_flatten (s := s) (n := n) (l := l.drop s) (by rw [List.length_drop]; omega)
    refine ⟨?_, by simp [chunks, h2], ?_⟩
    · simp only [chunks, List.flatten_cons, h1, List.take_append_drop]
    · intro r hr
      simp only [chunks, List.mem_cons] at hr
      rcases hr with rfl | hr
      · rw [List.length_take]; omega
      · exact h3 r hr
theorem snd_subA (h : SimG w0 S0 M σ a w S μ β) (hd : ∀ d, o.dst = some d → d < σ.n) {t e : TypeId} {s n : Nat} {x : Operand} {lo hi : Option Operand} {x' : Opd} {lo' hi' : Option Opd} (ho : o.op = .slice t x lo hi none) (ht : P.underlying t = some (.array n e)) (hsz : sizeT P e = some s)
    (hx : compOpd x = some x') (hl : compOpt lo = some lo') (hh : compOpt hi = some hi') {u : Upd} (hu : ev σ o.dst (.subA s n x' lo' hi') = some u) (hs : u.side) :
    Does P o a w (fun v w' => Sim w0 S0 M (σ.apply o.dst u) (a.put o.dst v) w') := by
  have hrel := opd_sound h hx
  simp only [ev] at hu
  split at hu
  · next cells fz hc =>
    have hrep := toIV1_sound h hc (fun _ x => x) hrel
    split at hu
    · next l r bl bh =>
      obtain rfl := Option.some.inj hu
      obtain ⟨h0, h1, h2, h3⟩ : 0 ≤ l ∧ l ≤ r ∧ r ≤ n ∧ n * s ≤ cells.length := hs
      obtain ⟨blk, off, hv, hcells⟩ := hrep
      have hb : l.toNat * s + (r.toNat - l.toNat) * s ≤ cells.length := by
        rw [← Nat.add_mul]
        exact Nat.le_trans (Nat.mul_le_mul_right _ (by omega)) h3
      obtain ⟨c1, c2, c3⟩ := chunks_flatten (s := s) (n := r.toNat - l.toNat) (l := (cells.drop (l.toNat * s)).take ((r.toNat - l.toNat) * s)) (by rw [List.length_take, List.length_drop]; omega)
      refine does_pure h hd (v := .slice (some (if n = l.toNat then ⟨blk, off, none⟩ else (⟨blk, off, none⟩ : Addr).add (l.toNat * s))) (r.toNat - l.toNat) (n - l.toNat)) ?_ ?_
      · have := run_sliceBounds (P := P) (w := w) (len := n) (cap := n) h hl hh bl bh h0 h1 h2 false
        simp only [execOp, ho, Instr.sliceAt, hv, Sem.run_bind, run_underlying ht, Result.andThen_ok, Option.map_none, this, run_sizeT hsz, Sem.run_pure, Instr.sureAddr]
      · refine ⟨_, _, by rw [c2], by rw [c2]; omega, fun hne => ?_⟩
        have hlr : r.toNat - l.toNat ≠ 0 := fun e0 => hne (List.length_eq_zero_iff.1 (by rw [c2, e0]))
        rw [if_neg (by omega)]
        refine ⟨blk, off + l.toNat * s, s, by simp [Addr.add], RepRows.ofFlat c3 ?_⟩
        rw [c1]
        exact RepCells.take _ (RepCells.drop _ hcells)
    · simp at hu
  · simp at hu

theorem repeatL_length {α : Type} (l : List α) : ∀ n, (repeatL l n).length = n * l.length
  | 0 => by simp [repeatL]
  | n + 1 => by simp only [repeatL, List.length_append, repeatL_length l n, Nat.add_mul]; omega

theorem fillSV_length {objs : List (Nat × Ob)} : ∀ {parts : List (Nat × Nat × Opd)} {cells cells' : List SV}, fillSV objs σ cells parts = some cells' → cells'.length = cells.length
  | [], cells, cells', h => by simp only [fillSV, Option.some.injEq] at h; rw [h]
  | (off, s, x) :: r, cells, cells', h => by
    simp only [fillSV] at h
    split at h
    · next cs hcs =>
      split at h
      · next hc =>
        have := fillSV_length h
        rw [this]
        simp only [List.length_append, List.length_take, List.length_drop]
        omega
      · simp at h
    · simp at h

theorem snd_buildSlice (h : SimG w0 S0 M σ a w S μ β) (hd : ∀ d, o.dst = some d → d < σ.n) {t e : TypeId} {n s : Nat} {parts : Array (Nat × Operand)} {z : List SV} {parts' : List (Nat × Nat × Opd)} (ho : o.op = .buildSlice t n parts) (ht : P.underlying t = some (.slice e))
    (hs : sizeT P e = some s) (hz : zeroT P e = some z) (hok : 0 < s ∧ z.length = s ∧ n * s ≤ 16777216) (hp : compParts (fun i => some (i * s, s)) parts.toList = some parts') {u : Upd} (hu : ev σ o.dst (.buildSlice s n z parts') = some u) :
    Does P o a w (fun v w' => Sim w0 S0 M (σ.apply o.dst u) (a.put o.dst v) w') := by
  obtain ⟨i, zv, h1, h2, h3⟩ := zeroT_some hz
  obtain ⟨hpos, hzl, hbig⟩ := hok
  simp only [ev] at hu
  split at hu
  · next d cells hdst hf =>
    split at hu
    · next vs fz hiv =>
      have hzr := constSVs_sound (w := w) (S := S) (μ := μ) (objs := σ.objs) h3
      have hzs : zv.cells.size = s := by have := SVOnes.length hzr; simp at this; omega
      have hinit : SVOnes w S μ σ.objs (repeatL z n) ((Array.range (n * s)).map (fun i => zv.cells[i % zv.cells.size]!)).toList := by
        rw [toList_range_map zv.cells s hzs hpos]
        exact SVOnes.repeat hzr n
      obtain ⟨vals, h4, h5⟩ := fill_sound h hp hinit hf
      have hrep := toIVs1_soundOnes h hiv (fun _ x => x) h5
      have hlen : vs.length = n * s := by
        have e1 := RepOnes.length hrep
        have e2 := SVOnes.length h5
        have e3 := fillSV_length hf
        rw [repeatL_length] at e3
        rw [hzl] at e3
        omega
      have hvl : vals.size = n * s := by have e1 := RepOnes.length hrep; simp at e1; omega
      obtain ⟨c1, c2, c3⟩ := chunks_flatten hlen
      have hrun : (execOp a.eval o).run P w = .ok (.value (.slice (some ⟨w.heap.size, 0, none⟩) n n)) (w.alloc (.cells vals e)) := by
        have hmap : (parts.map fun (p : Nat × Operand) => (p.1, a.eval p.2)).toList = parts.toList.map fun (p : Nat × Operand) => (p.1, a.eval p.2) := by simp
        simp only [execOp, ho, Instr.buildSlice, Sem.run_bind, run_underlying ht, Result.andThen_ok, run_sizeT hs]
        rw [if_neg (by omega)]
        by_cases hnz : n * s = 0
        · rw [if_pos hnz]
          simp only [Sem.run_bind, Result.andThen_ok, Sem.run_pure, hmap]
          rw [hnz] at h4 ⊢
          rw [show (Array.range 0).map (fun i => (#[] : Array Value)[i % (#[] : Array Value).size]!) = (Array.range 0).map (fun i => zv.cells[i % zv.cells.size]!) from by simp, h4]
          simp [newRow]
        · rw [if_neg hnz]
          simp only [Sem.run_bind, run_zeroValue h1 h2, Result.andThen_ok, Sem.run_pure, hmap]
          rw [h4]
          simp [newRow]
      split at hu
      · split at hu
        · obtain rfl := Option.some.inj hu
          have hfr := h.freeze fz
          have hka := keeps_alloc hfr (.cells vals e)
          have hrep' : RepOnes (w.alloc (.cells vals e)) (Plus S β σ.objs fz) vs vals.toList := RepOnes.mono hka (fun _ _ x => x) _ _ hrep
          have h1 := hfr.world (w' := w.alloc (.cells vals e)) (S' := fun b o => Plus S β σ.objs fz b o ∨ (b = w.heap.size ∧ o < n * s)) ⟨hka.1, hka.2⟩ (fun _ _ x => .inl x)
            (fun id ob b hl hb => heap_alloc_lt (ObRel.live hb (h.objs id ob hl)))
            (fun id ob b off hl hb hS => by
              rcases hS with hS | ⟨rfl, _⟩
              · exact hS
              · exact absurd (ObRel.live hb (h.objs id ob hl)) (by omega))
            (fun b o hS => by
              have : (w.alloc (.cells vals e)).heap.size = w.heap.size + 1 := by simp
              rcases hS with hS | ⟨rfl, _⟩
              · have := hfr.stab b o hS; omega
              · omega)
            (fun b o hS => by
              rcases hS with hS | ⟨rfl, _⟩
              · exact .inl hS
              · exact .inr (.inl h.kept.size))
            (h.kept.trans (kept_alloc w _).none)
          refine ⟨_, _, _, hrun, .inl rfl, _, μ, β, SimG.putD (σ := { σ with ro := fz ++ σ.ro }) h1 hd ?_⟩
          have hcells : RepCells (w.alloc (.cells vals e)) (fun b o => Plus S β σ.objs fz b o ∨ (b = w.heap.size ∧ o < n * s)) vs w.heap.size 0 :=
            RepCells.intro (RepOnes.mono (Keeps.refl _ _) (fun _ _ x => .inl x) _ _ hrep') (fun j hj => .inr ⟨rfl, by omega⟩) (fun j v hj => by
              rw [cell_row (heap_alloc_at w _)]
              simpa using hj)
          refine ⟨⟨_, n, by rw [c2], by rw [c2]; exact Nat.le_refl _, fun _ => ⟨w.heap.size, 0, s, rfl, RepRows.ofFlat c3 (by rw [c1]; exact hcells)⟩⟩, some ⟨w.heap.size, 0, none⟩, by rw [c2]⟩
        obtain rfl := Option.some.inj hu
        refine does_new h hdst (hd d hdst) (blk := some w.heap.size) (mu := .slice (some ⟨w.heap.size, 0, none⟩) n n) (v := .slice (some ⟨w.heap.size, 0, none⟩) n n) (w' := w.alloc (.cells vals e)) hrun (kept_alloc _ _) (fun b hb => (Option.some.inj hb).symm) ?_ (.inr ⟨⟨_, _, rfl⟩, rfl, rfl⟩)
        refine .inr ⟨_, n, vals, e, (0, 0), rfl, ?_, heap_alloc_at _ _, NoFrz.zero _, hvl, ?_, c3, ?_⟩
        · rw [c2]
        · rw [c2]; exact Nat.le_refl _
        · rw [c1, c2, List.take_of_length_le (by simp; omega)]
          refine RepOnes.mono ?_ (fun _ _ x => x) _ _ hrep
          exact keeps_alloc (h.freeze fz) _
      · next ln hln =>
        obtain rfl := Option.some.inj hu
        refine does_newT h hdst (hd d hdst) (blk := some w.heap.size) (mu := .slice (some ⟨w.heap.size, 0, none⟩) n n) (v := .slice (some ⟨w.heap.size, 0, none⟩) n n) (w' := w.alloc (.cells vals e)) hrun (kept_alloc _ _) (fun b hb => (Option.some.inj hb).symm) ?_ ⟨⟨_, _, _, rfl⟩, rfl, rfl⟩
        refine .inr ⟨_, n, vals, e, (0, 0), rfl, ?_, heap_alloc_at _ _, NoFrz.zero _, hvl, ?_, c3, ?_, ?_⟩
        · rw [c2]
        · rw [c2]; exact Nat.le_refl _
        · rw [c1, c2, List.take_of_length_le (by simp; omega)]
          refine RepOnes.mono ?_ (fun _ _ x => x) _ _ hrep
          exact keeps_alloc (h.freeze fz) _
        · rw [c2]
          refine LnRel.mono (keeps_alloc (h.freeze fz) _) (fun _ _ x => x) (LnRel.mono (Keeps.refl _ _) (fun _ _ x => .inl x) ?_)
          have e2 := SVOnes.length h5
          exact lnRows_rel hpos h5 (fun j v hj => by simpa using hj) (by simp at e2; omega)
    · simp at hu
  · simp at hu

theorem zeroIV_length : ∀ {zero : List SV} {z : List IV}, zeroIV zero = some z → z.length = zero.length
  | [], z, h => by simp only [zeroIV, Option.some.injEq] at h; subst h; rfl
  | x :: r, z, h => by
    cases x <;> simp only [zeroIV] at h <;> first
      | (split at h
         · next vs hr => simp only [Option.some.injEq] at h; subst h; simp [zeroIV_length hr]
         · cases h)
      | cases h
theorem zeroIV_rep {objs : List (Nat × Ob)} : ∀ {zero : List SV} {z : List IV} {vs : List Value}, zeroIV zero = some z → SVOnes w S μ objs zero vs → RepOnes w S z vs
  | [], z, vs, h, hr => by simp only [zeroIV, Option.some.injEq] at h; subst h; exact hr
  | x :: r, z, vs, h, ⟨u, us, h1, h0, h2, h3⟩ => by
    cases x <;> simp only [zeroIV] at h
    case val iv =>
      split at h
      · next vs' hr =>
        simp only [Option.some.injEq] at h
        subst h
        exact ⟨u, us, h1, IV.oneCell_one h0 h2, h2, zeroIV_rep hr h3⟩
      · cases h
    case nils =>
      split at h
      · next vs' hr =>
        simp only [Option.some.injEq] at h
        subst h
        obtain ⟨a, rfl⟩ := h2
        exact ⟨_, us, h1, rfl, ⟨a, 0, rfl, Nat.le_refl _, fun hn => absurd rfl hn⟩, zeroIV_rep hr h3⟩
      · cases h
    all_goals cases h
theorem snd_mkSlice (h : SimG w0 S0 M σ a w S μ β) (hd : ∀ d, o.dst = some d → d < σ.n) {t e : TypeId} {i : TypeInfo} {x y : Operand} {x' y' : Opd} {z : List SV} (ho : o.op = .makeSlice t x y) (ht : P.underlying t = some (.slice e))
    (hi : P.info? e = some i) (hz : zeroT P e = some z) (hok : 0 < i.size ∧ z.length = i.size) (hx : compOpd x = some x') (hy : compOpd y = some y') {u : Upd} (hu : ev σ o.dst (.mkSlice i.size i.bytes z x' y') = some u) (hs : u.side) :
    Does P o a w (fun v w' => Sim w0 S0 M (σ.apply o.dst u) (a.put o.dst v) w') := by
  obtain ⟨i', zv, h1, h2, h3⟩ := zeroT_some hz
  obtain rfl : i' = i := by rw [hi] at h1; exact (Option.some.inj h1).symm
  obtain ⟨hpos, hzl⟩ := hok
  have hrelx := opd_sound h hx
  have hrely := opd_sound h hy
  simp only [ev] at hu
  split at hu
  · next d l c zs hdst hl hc hav =>
    obtain rfl := Option.some.inj hu
    obtain ⟨h0, hlc, hby, hmax⟩ : 0 ≤ l ∧ l ≤ c ∧ c * i'.bytes ≤ 281474976710656 ∧ c ≤ 9223372036854775807 := hs

    rw [hl] at hrelx
    rw [hc] at hrely
    have hv1 : a.eval x = .int .i64 l := hrelx
    have hv2 : a.eval y = .int .i64 c := hrely
    have hzr := constSVs_sound (w := w) (S := S) (μ := μ) (objs := σ.objs) h3
    have hzs : zv.cells.size = i'.size := by have := SVOnes.length hzr; simp at this; omega
    have hwl : IntKind.i64.wrap l = l := IntWalk.i64_in l (by omega)
    have hwc : IntKind.i64.wrap c = c := IntWalk.i64_in c (by omega)
    have hrz : RepOnes w S zs zv.cells.toList := zeroIV_rep hav hzr
    have hzl : zs.length = i'.size := (zeroIV_length hav).trans hzl
    let row : Array Value := (Array.range (c.toNat * i'.size)).map (fun j => zv.cells[j % zv.cells.size]!)
    have hrow : row.toList = repeatL zv.cells.toList c.toNat := toList_range_map zv.cells i'.size hzs hpos c.toNat
    have hrsz : row.size = c.toNat * i'.size := by simp [row]
    refine does_new (fz := []) h hdst (hd d hdst) (blk := some w.heap.size) (mu := .slice (some ⟨w.heap.size, 0, none⟩) l.toNat c.toNat) (v := .slice (some ⟨w.heap.size, 0, none⟩) l.toNat c.toNat) (w' := w.alloc (.cells row e)) ?_ (kept_alloc _ _) (fun b hb => (Option.some.inj hb).symm) ?_ (.inr ⟨⟨_, _, rfl⟩, rfl, rfl⟩)
    · simp only [execOp, ho, Instr.makeSlice, Sem.run_bind, run_underlying ht, Result.andThen_ok, hv1, hv2, asInt, asIntOf, Sem.run_pure, run_ti hi, hwl, hwc]
      have t1 : (decide (c < 0) || decide ((i'.bytes : Int) * c > 2 ^ 48)) = false := by
        rw [Int.mul_comm]
        simp only [Bool.or_eq_false_iff, decide_eq_false_iff_not]
        constructor
        · omega
        · have : (2 : Int) ^ 48 = 281474976710656 := by decide
          omega
      simp only [t1, Bool.false_or]
      rw [if_neg (by simp; omega)]
      simp only [Sem.run_bind, run_askRoom, Result.andThen_ok, run_sizeI hi]
      by_cases hz0 : c.toNat * i'.size = 0
      · rw [if_pos hz0]
        simp only [Sem.run_pure, Result.andThen_ok, newRow, Sem.run_bind, run_newObj]
        have : row = #[] := by apply Array.eq_empty_of_size_eq_zero; omega
        rw [this, hz0]
        have hr0 : ∀ f : Nat → Value, (Array.range 0).map f = #[] := fun f => by apply Array.toList_inj.1; simp
        rw [hr0]
        rfl
      · rw [if_neg hz0]
        simp only [Sem.run_bind, run_zeroValue h1 h2, Result.andThen_ok, Sem.run_pure, newRow, run_newObj]
        rfl
    · have hlen2 : (List.replicate l.toNat zs).length = l.toNat := by simp
      refine .inr ⟨_, c.toNat, row, e, (0, 0), rfl, by rw [hlen2], heap_alloc_at _ _, NoFrz.zero _, hrsz, by rw [hlen2]; omega, ?_, ?_⟩
      · intro r hr
        have := List.eq_of_mem_replicate hr
        subst this
        simpa using hzl
      · rw [hlen2, hrow]
        have hflat : ∀ n, (List.replicate n zs).flatten = repeatL zs n := by
          intro n
          induction n with
          | zero => rfl
          | succ n ih => simp [List.replicate_succ, repeatL, ih]
        have htake : ∀ (n m : Nat), n ≤ m → (repeatL zv.cells.toList m).take (n * i'.size) = repeatL zv.cells.toList n := by
          intro n
          induction n with
          | zero => intro m _; simp [repeatL]
          | succ n ih =>
            intro m hm
            cases m with
            | zero => omega
            | succ m =>
              simp only [repeatL]
              rw [show (n + 1) * i'.size = zv.cells.toList.length + n * i'.size by simp [hzs, Nat.add_mul]; omega, List.take_length_add_append, ih m (by omega)]
        rw [hflat, htake _ _ (by omega)]
        have hrepR : ∀ n, RepOnes w S (repeatL zs n) (repeatL zv.cells.toList n) := by
          intro n
          induction n with
          | zero => rfl
          | succ n ih => exact RepOnes.append hrz ih
        exact RepOnes.mono (keeps_alloc h _) Plus.nil _ _ (hrepR _)
  · simp at hu

end
end Go.Vs
set_option linter.unusedVariables false
set_option linter.unusedSimpArgs false
namespace Go.Vs

/-- One row has been written, nothing else. -/
structure Wrote (w w' : World) (b : Nat) (vs : Array Value) (e : TypeId) (fr : Nat × Nat) : Prop where
  os : w'.os = w.os
  tape : w'.tape = w.tape
  output : w'.output = w.output
  size : w'.heap.size = w.heap.size
  other : ∀ k, k ≠ b → w'.heap[k]? = w.heap[k]?
  here : w'.heap[b]? = some (.cells vs e fr)
  shape : ∀ k x, w.shape? k = some x → w'.shape? k = some x

theorem setCell_wrote {w : World} {b off : Nat} {vs : Array Value} {e : TypeId} {fr : Nat × Nat} (h : w.heap[b]? = some (.cells vs e fr)) (v : Value) :
    Wrote w (w.setCell ⟨b, off, none⟩ v) b (vs.setIfInBounds off v) e fr := by
  refine ⟨rfl, rfl, rfl, by simp [World.setCell], fun k hk => ?_, ?_, fun k x hx => ?_⟩
  · simp only [World.setCell, Array.getElem?_modify]
    rw [if_neg (by omega)]
  · simp only [World.setCell, Array.getElem?_modify, if_true, h]
    simp
  · simp only [World.shape?, World.setCell, Array.getElem?_modify] at hx ⊢
    by_cases hk : b = k
    · subst hk
      rw [h] at hx
      simpa [h] using hx
    · rw [if_neg hk]; exact hx

theorem frozen_row {w : World} {b off : Nat} {vs : Array Value} {e : TypeId} {fr : Nat × Nat} (h : w.heap[b]? = some (.cells vs e fr)) (hf : NoFrz fr vs.size) (ho : off < vs.size) : w.frozen? ⟨b, off, none⟩ = false := by
  have hf : fr = (0, 0) := hf
  subst hf
  simp only [World.frozen?, h]
  simp only [Bool.and_eq_false_iff, decide_eq_false_iff_not]
  omega

theorem run_storeCells (P : Program) {b off : Nat} {e : TypeId} {fr : Nat × Nat} : ∀ (us : List Value) (i : Nat) (vs : Array Value) (w : World), w.heap[b]? = some (.cells vs e fr) → NoFrz fr vs.size → off + i + us.length ≤ vs.size →
    (∀ u ∈ us, u.oneCell' = true) → ∃ w' vs', (storeCells ⟨b, off, none⟩ us i).run P w = .ok () w' ∧ Wrote w w' b vs' e fr ∧ vs'.toList = vs.toList.take (off + i) ++ us ++ vs.toList.drop (off + i + us.length)
  | [], i, vs, w, h, _, hle, _ => ⟨w, vs, rfl, ⟨rfl, rfl, rfl, rfl, fun _ _ => rfl, h, fun _ _ h => h⟩, by simp⟩
  | u :: us, i, vs, w, h, hf, hle, h1 => by
    simp only [List.length_cons] at hle
    have hlt : off + i < vs.size := by omega
    have hw := setCell_wrote (off := off + i) h u
    obtain ⟨w', vs', r1, r2, r3⟩ := run_storeCells (off := off) P us (i + 1) (vs.setIfInBounds (off + i) u) (w.setCell ⟨b, off + i, none⟩ u) hw.here (by simpa using hf) (by simp; omega) (fun x hx => h1 x (List.mem_cons_of_mem _ hx))
    refine ⟨w', vs', ?_, ⟨r2.os.trans hw.os, r2.tape.trans hw.tape, r2.output.trans hw.output, r2.size.trans hw.size, fun k hk => (r2.other k hk).trans (hw.other k hk), r2.here, fun k x hx => r2.shape _ _ (hw.shape _ _ hx)⟩, ?_⟩
    · have hc : w.cell? ⟨b, off + i, none⟩ = some vs[off + i] := by rw [cell_row h]; simp [hlt]
      simp only [storeCells, Sem.run_bind, add_none, run_store P w _ u .plain (h1 u (by simp)), hc, frozen_row h hf hlt, Bool.false_eq_true, if_false, Result.andThen_ok]
      exact r1
    · rw [r3]
      have hl : off + i < vs.toList.length := by simpa using hlt
      simp only [Array.toList_setIfInBounds, List.length_cons]
      have e1 : (vs.toList.set (off + i) u).take (off + (i + 1)) = vs.toList.take (off + i) ++ [u] := by
        rw [show off + (i + 1) = (off + i) + 1 by omega, List.take_succ_eq_append_getElem (by simpa using hl), List.take_set_of_le (Nat.le_refl _)]
        simp
      have e2 : (vs.toList.set (off + i) u).drop (off + (i + 1) + us.length) = vs.toList.drop (off + i + (us.length + 1)) := by
        rw [List.drop_set_of_lt (by omega)]
        congr 1; omega
      rw [e1, e2]
      simp

theorem splice_take {α : Type} {A Y : List α} {X s R off n : Nat} (h1 : X + s ≤ R) (h2 : R ≤ A.length) (h3 : Y.length = n) (h4 : off + n ≤ s) :
    (A.take (X + off) ++ Y ++ A.drop (X + (off + n))).take R =
      (A.take R).take X ++ ((((A.take R).drop X).take s).take off ++ Y ++ (((A.take R).drop X).take s).drop (off + n)) ++ (A.take R).drop (X + s) := by
  apply List.ext_getElem?
  intro j
  simp only [List.getElem?_take, List.getElem?_append, List.getElem?_drop, List.length_take, List.length_append, List.length_drop]
  by_cases c1 : j < X
  · simp only [show j < min (X + off) A.length by omega, show j < R by omega, show j < min X (min R A.length) by omega, show j < X + off by omega, show j < min (X + off) A.length + Y.length by omega, c1,
      show j < min X (min R A.length) + (min off (min s (min R A.length - X)) + Y.length + (min s (min R A.length - X) - (off + n))) by omega, if_true]
  · by_cases c2 : j < X + off
    · simp only [show j < min (X + off) A.length by omega, show j < R by omega, show ¬ j < min X (min R A.length) by omega, c2, show j < min (X + off) A.length + Y.length by omega,
        show j < min X (min R A.length) + (min off (min s (min R A.length - X)) + Y.length + (min s (min R A.length - X) - (off + n))) by omega, if_true, if_false,
        show j - min X (min R A.length) < min off (min s (min R A.length - X)) + Y.length by omega, show j - min X (min R A.length) < min off (min s (min R A.length - X)) by omega,
        show j - min X (min R A.length) < off by omega, show j - min X (min R A.length) < s by omega, show X + (j - min X (min R A.length)) < R by omega]
      congr 1; omega
    · by_cases c3 : j < X + off + n
      · simp only [show ¬ j < min (X + off) A.length by omega, show j < R by omega, show ¬ j < min X (min R A.length) by omega, show j < min (X + off) A.length + Y.length by omega,
          show j < min X (min R A.length) + (min off (min s (min R A.length - X)) + Y.length + (min s (min R A.length - X) - (off + n))) by omega, if_true, if_false,
          show j - min X (min R A.length) < min off (min s (min R A.length - X)) + Y.length by omega, show ¬ j - min X (min R A.length) < min off (min s (min R A.length - X)) by omega]
        congr 1; omega
      · by_cases c4 : j < X + s
        · simp only [show j < R by omega, show ¬ j < min X (min R A.length) by omega, show ¬ j < min (X + off) A.length + Y.length by omega,
            show j < min X (min R A.length) + (min off (min s (min R A.length - X)) + Y.length + (min s (min R A.length - X) - (off + n))) by omega, if_true, if_false,
            show ¬ j - min X (min R A.length) < min off (min s (min R A.length - X)) + Y.length by omega]
          rw [if_pos (by omega), if_pos (by omega)]
          congr 1; omega
        · simp only [show ¬ j < min (X + off) A.length + Y.length by omega,
            show ¬ j < min X (min R A.length) + (min off (min s (min R A.length - X)) + Y.length + (min s (min R A.length - X) - (off + n))) by omega, if_false]
          by_cases c5 : j < R
          · rw [if_pos c5, if_pos (by omega)]
            congr 1; omega
          · rw [if_neg c5, if_neg (by omega)]

section
variable {P : Program} {w0 w : World} {S0 S : Stab} {M : Ctx} {σ : St} {a : Act} {μ : Nat → Value} {β : Nat → Option Nat} {o : Oper}

theorem wrote_kept (h : SimG w0 S0 M σ a w S μ β) {id : Nat} {x : Ob} {b : Nat} (hl : look σ.objs id = some x) (hb : β id = some b) {w' : World} {vs : Array Value} {e : TypeId} {fr : Nat × Nat} (hw : Wrote w w' b vs e fr) : Kept M.blocks w0 w' := by
  refine ⟨hw.os.trans h.kept.os, hw.tape.trans h.kept.tape, hw.output.trans h.kept.output, by rw [hw.size]; exact h.kept.size, fun k hk hm => ?_, fun k x hx => hw.shape _ _ (h.kept.shape _ _ hx)⟩
  have : k ≠ b := by
    rintro rfl
    rcases h.own id x k hl hb with h1 | h1
    · omega
    · exact hm h1
  exact (hw.other k this).trans (h.kept.block k hk hm)

/-- An object that is not frozen is written in place. -/
theorem SimG.write (h : SimG w0 S0 M σ a w S μ β) {id : Nat} {x x' : Ob} {b : Nat} (hl : look σ.objs id = some x) (hb : β id = some b) {w' : World} {vs : Array Value} {e : TypeId} {fr : Nat × Nat} (hw : Wrote w w' b vs e fr) (hro : id ∉ σ.ro)
    (hkind : (∃ c c', x = .box c ∧ x' = .box c') ∨ (∃ cv s rows rows', x = .arr cv s rows ∧ x' = .arr cv s rows' ∧ rows.length = rows'.length) ∨ (∃ cv s rows rows' ln ln', x = .tab cv s rows ln ∧ x' = .tab cv s rows' ln' ∧ rows.length = rows'.length))
    (hob : ObRel w' S μ σ.objs (some b) (μ id) x') : SimG w0 S0 M { σ with objs := Vs.put σ.objs id x' } a w' S μ β := by
  have hS : ∀ b' off, S b' off → b' ≠ b := by
    rintro b' off hS rfl
    exact hro (h.unst id x b' off hl hb hS).1
  have := h.turn hl (some b) (μ id) (w' := w') (⟨fun b' off hS' => cell_of_heap (hw.other b' (hS b' off hS')) off, hw.shape⟩) (wrote_kept h hl hb hw) (by rw [hw.size]; exact Nat.le_refl _)
    (fun id' y b' hid hl' hb' => hw.other b' (fun e => hid (h.inj id' id y x b' hl' hl hb' (e ▸ hb)))) ?_ hob (fun b' hb' => .inl (by rw [hb]; exact hb')) (fun b' off hb' hS' => absurd (Option.some.inj hb').symm (hS b' off hS'))
  · have e1 : (fun i => if i = id then μ id else μ i) = μ := by funext i; split <;> simp_all
    have e2 : (fun i => if i = id then some b else β i) = β := by funext i; split <;> simp_all
    rw [e1, e2] at this
    exact this
  · rcases hkind with ⟨c, c', h1, h2⟩ | ⟨cv, s, r, r', h1, h2, h3⟩ | ⟨cv, s, r, r', ln, ln', h1, h2, h3⟩
    · exact .inl ⟨c, c', h1, h2, rfl⟩
    · exact .inr (.inl ⟨cv, s, r, cv, r', h1, h2, Nat.le_refl _, fun _ => ⟨h3, rfl⟩⟩)
    · exact .inr (.inr (.inr ⟨cv, s, r, ln, cv, r', ln', h1, h2, Nat.le_refl _, fun _ => ⟨h3, rfl⟩⟩))

theorem LnRel.append {w : World} {S : Stab} {μ : Nat → Value} {objs : List (Nat × Ob)} {s n : Nat} {vs : List Value} : ∀ {l k : List (Nat × Nat × SV)}, LnRel w S μ objs s n vs l → LnRel w S μ objs s n vs k → LnRel w S μ objs s n vs (l ++ k)
  | [], _, _, h => h
  | _ :: _, _, ⟨h1, h2⟩, h => ⟨h1, LnRel.append h2 h⟩
theorem lnNew_rel {w : World} {S : Stab} {μ : Nat → Value} {objs : List (Nat × Ob)} {s n i : Nat} {vs : List Value} (hi : i < n) : ∀ {cs : List SV} {us : List Value} {off : Nat}, SVOnes w S μ objs cs us → (∀ j v, us[j]? = some v → vs[i * s + off + j]? = some v) → off + cs.length ≤ s → LnRel w S μ objs s n vs (lnNew i off cs)
  | [], _, _, _, _, _ => trivial
  | c :: cs, _, off, ⟨u, us, h1, h0, h2, h3⟩, hv, hk => by
    subst h1
    simp only [List.length_cons] at hk
    have ih := lnNew_rel (s := s) (vs := vs) hi (off := off + 1) h3 (fun j v hj => by
      have := hv (j + 1) v (by simpa using hj)
      rw [← this]; congr 1; omega) (by omega)
    simp only [lnNew]
    cases linkable c with
    | false => exact ih
    | true => exact ⟨⟨hi, by show off < s; omega, u, hv 0 u rfl, h2⟩, ih⟩
theorem lnCut_rel {w : World} {S : Stab} {μ : Nat → Value} {objs : List (Nat × Ob)} {s n i lo hi : Nat} {vs vs' : List Value} (hv : ∀ i' j, i' < n → j < s → ¬ (i' = i ∧ lo ≤ j ∧ j < hi) → vs'[i' * s + j]? = vs[i' * s + j]?) : ∀ {l : List (Nat × Nat × SV)}, LnRel w S μ objs s n vs l → LnRel w S μ objs s n vs' (lnCut i lo hi l)
  | [], _ => trivial
  | p :: r, ⟨⟨h1, h2, v, h3, h4⟩, h5⟩ => by
    simp only [lnCut]
    cases hp : (p.1 == i && (decide (lo ≤ p.2.1) && decide (p.2.1 < hi))) with
    | true => exact lnCut_rel hv h5
    | false =>
      refine ⟨⟨h1, h2, v, ?_, h4⟩, lnCut_rel hv h5⟩
      rw [hv _ _ h1 h2 (fun hh => by simp [hh.1, hh.2.1, hh.2.2] at hp)]
      exact h3

theorem flatten_set : ∀ {rows : List (List IV)} {s i : Nat} {row row' : List IV}, (∀ r ∈ rows, r.length = s) → rows[i]? = some row → row'.length = s →
    (rows.set i row').flatten = rows.flatten.take (i * s) ++ row' ++ rows.flatten.drop ((i + 1) * s)
  | [], _, _, _, _, _, h, _ => by simp at h
  | r0 :: rs, s, 0, row, row', hl, h, hl' => by
    have h1 := hl r0 (by simp)
    simp only [List.set_cons_zero, List.flatten_cons, Nat.zero_mul, List.take_zero, List.nil_append, Nat.zero_add, Nat.one_mul]
    rw [← h1, List.drop_left']
    rfl
  | r0 :: rs, s, i + 1, row, row', hl, h, hl' => by
    have h1 := hl r0 (by simp)
    have ih := flatten_set (rows := rs) (s := s) (i := i) (row := row) (row' := row') (fun x hx => hl x (List.mem_cons_of_mem _ hx)) (by simpa using h) hl'
    simp only [List.set_cons_succ, List.flatten_cons, ih]
    have e1 : (r0 ++ rs.flatten).take ((i + 1) * s) = r0 ++ rs.flatten.take (i * s) := by
      rw [show (i + 1) * s = r0.length + i * s by rw [h1, Nat.add_mul]; omega, List.take_length_add_append]
    have e2 : (r0 ++ rs.flatten).drop ((i + 1 + 1) * s) = rs.flatten.drop ((i + 1) * s) := by
      rw [show (i + 1 + 1) * s = r0.length + (i + 1) * s by rw [h1, Nat.add_mul (i + 1)]; omega, List.drop_length_add_append]
    rw [e1, e2]
    simp

theorem snd_store (h : SimG w0 S0 M σ a w S μ β) (hd : ∀ d, o.dst = some d → d < σ.n) {t : TypeId} {n : Nat} {x y : Operand} {x' y' : Opd} (ho : o.op = .store t x y) (hn : sizeT P t = some n) (hx : compOpd x = some x') (hy : compOpd y = some y')
    {u : Upd} (hu : evStore σ n (val σ x') (val σ y') = some u) (hs : u.side) : Does P o a w (fun v w' => Sim w0 S0 M (σ.apply o.dst u) (a.put o.dst v) w') := by
  have hrelx := opd_sound h hx
  have hrely := opd_sound h hy
  have hrun : ∀ {b off : Nat} {w' : World}, a.eval x = .pointer (some ⟨b, off, none⟩) → (a.eval y).cells.size = n → (storeCells ⟨b, off, none⟩ (a.eval y).cells.toList 0).run P w = .ok () w' → (execOp a.eval o).run P w = .ok .skip w' := by
    intro b off w' hv hsz hst
    simp only [execOp, ho, hv, Instr.storeAt, Instr.sureAddr, Sem.run_bind, Sem.run_pure, Result.andThen_ok, storeVar, run_sizeT hn]
    rw [if_neg (by simp [hsz])]
    simp only [hst, Result.andThen_ok, Sem.run_bind, Sem.run_pure]
  unfold evStore at hu
  split at hu
  · simp at hu
  · next cs hcs =>
    have hcr := cellsOf_sound h hrely hcs
    have hlenc := SVOnes.length hcr
    simp only [Array.length_toList] at hlenc
    split at hu
    · next id off heq =>
      rw [heq] at hrelx
      split at hu
      · next cells hl =>
        split at hu
        · simp at hu
        · next hro =>
          have hro : id ∉ σ.ro := by simpa using hro
          obtain rfl := Option.some.inj hu
          obtain ⟨hcl, hle⟩ : cs.length = n ∧ off + n ≤ cells.length := hs
          obtain ⟨b, vs, e, fr, hb, hm, hv, hh, hf, hr⟩ := box_cells h hl hrelx
          have hlv := SVOnes.length hr
          simp only [Array.length_toList] at hlv
          obtain ⟨w', vs', r1, r2, r3⟩ := run_storeCells P (off := off) (a.eval y).cells.toList 0 vs w hh hf (by simp; omega) (SVOnes.oneCells hcr)
          refine ⟨_, Go.undef, w', hrun hv (by omega) r1, .inr ⟨rfl, rfl⟩, S, μ, β, ?_⟩
          have hkeeps : Keeps S w w' := by
            refine ⟨?_, r2.shape⟩
            intro b' off' hS
            have : b' ≠ b := by
              rintro rfl
              exact hro (h.unst id _ b' off' hl hb hS).1
            exact cell_of_heap (r2.other b' this) off'
          have h2 := h.write hl hb r2 hro (.inl ⟨_, _, rfl, rfl⟩) (x' := .box (cells.take off ++ cs ++ cells.drop (off + n))) (by
            refine ⟨b, vs', e, fr, rfl, hm, r2.here, ?_, ?_⟩
            · have : vs'.size = vs.size := by
                have := congrArg List.length r3
                simp only [Array.length_toList, List.length_append, List.length_take, List.length_drop] at this
                omega
              rw [this]; exact hf
            · rw [r3]
              simp only [Nat.add_zero, Array.length_toList]
              rw [show off + (a.eval y).cells.size = off + n by omega]
              exact SVOnes.mono hkeeps (fun _ _ x => x) _ _ (SVOnes.append (SVOnes.append (SVOnes.take off hr) hcr) (SVOnes.drop _ hr)))
          exact h2.putD (sv := .undef) hd trivial
      · simp at hu
    · next id ver i off heq =>
      rw [heq] at hrelx
      split at hu
      · next cv s rows vs fz hl hiv =>
        split at hu
        · simp at hu
        · next hro =>
          simp only [Bool.or_eq_true, List.contains_iff_mem, not_or] at hro
          split at hu
          · next hver =>
            have hver : ver = cv := by simpa using hver
            split at hu
            · next row hrow =>
              obtain rfl := Option.some.inj hu
              obtain ⟨hcl, hle⟩ : cs.length = n ∧ off + n ≤ row.length := hs
              obtain ⟨_, hv0⟩ := hrelx _ _ _ hl
              obtain ⟨b, cap, hm, hv⟩ := hv0 hver
              have hi : i < rows.length := by
                rcases Nat.lt_or_ge i rows.length with hh | hh
                · exact hh
                · simp [List.getElem?_eq_none hh] at hrow
              obtain ⟨us, e, fr, hb, hh, hf, hsz, hle2, hlens, hrep⟩ := arr_block h hl hm (.inl (by intro e; subst e; simp at hi))
              have hrl : row.length = s := hlens row (List.mem_of_getElem? hrow)
              have hroom : (i + 1) * s ≤ rows.length * s := Nat.mul_le_mul_right _ hi
              have hroom2 : rows.length * s ≤ cap * s := Nat.mul_le_mul_right _ hle2
              rw [Nat.add_mul] at hroom
              obtain ⟨w', vs', r1, r2, r3⟩ := run_storeCells P (off := i * s + off) (a.eval y).cells.toList 0 us w hh hf (by simp; omega) (SVOnes.oneCells hcr)
              have h0 := h.freeze fz
              have hiv2 := toIVs1_soundOnes h hiv (fun _ x => x) hcr
              have hvl := RepOnes.length hiv2
              simp only [Array.length_toList] at hvl
              refine ⟨_, Go.undef, w', hrun hv (by omega) r1, .inr ⟨rfl, rfl⟩, Plus S β σ.objs fz, μ, β, ?_⟩
              have hro' : id ∉ fz ++ σ.ro := by
                rw [List.mem_append, not_or]
                exact ⟨hro.2, hro.1⟩
              have hkeeps : Keeps (Plus S β σ.objs fz) w w' := by
                refine ⟨?_, r2.shape⟩
                intro b' off' hS
                have : b' ≠ b := by
                  rintro rfl
                  exact hro' (h0.unst id _ b' off' hl hb hS).1
                exact cell_of_heap (r2.other b' this) off'
              have hnl : (row.take off ++ vs ++ row.drop (off + n)).length = s := by
                simp only [List.length_append, List.length_take, List.length_drop]; omega
              have h2 := h0.write hl hb r2 hro' (.inr (.inl ⟨cv, s, rows, _, rfl, rfl, by simp⟩)) (x' := .arr cv s (rows.set i (row.take off ++ vs ++ row.drop (off + n)))) (by
                have hss : vs'.size = us.size := by
                  have := congrArg List.length r3
                  simp only [Array.length_toList, List.length_append, List.length_take, List.length_drop] at this
                  omega
                refine .inr ⟨b, cap, vs', e, fr, rfl, ?_, r2.here, ?_, ?_, ?_, ?_, ?_⟩
                · rw [List.length_set]; exact hm
                · rw [hss]; exact hf
                · rw [hss]; exact hsz
                · rw [List.length_set]; exact hle2
                · intro r hr
                  rcases List.mem_or_eq_of_mem_set hr with hr | rfl
                  · exact hlens r hr
                  · exact hnl
                · rw [List.length_set, flatten_set hlens hrow hnl, r3]
                  simp only [Nat.add_zero, Array.length_toList]
                  rw [show i * s + off + (a.eval y).cells.size = i * s + (off + n) by omega]
                  have hrow' := flatten_row hlens hrow
                  have p1 := RepOnes.take (i * s) hrep
                  have p2 := RepOnes.drop ((i + 1) * s) hrep
                  have p3 := RepOnes.take s (RepOnes.drop (i * s) hrep)
                  rw [hrow'] at p3
                  have q := RepOnes.append (RepOnes.append (RepOnes.mono (Keeps.refl _ _) (fun _ _ x => .inl x) _ _ p1) (RepOnes.append (RepOnes.append (RepOnes.mono (Keeps.refl _ _) (fun _ _ x => .inl x) _ _ (RepOnes.take off p3)) hiv2) (RepOnes.mono (Keeps.refl _ _) (fun _ _ x => .inl x) _ _ (RepOnes.drop (off + n) p3)))) (RepOnes.mono (Keeps.refl _ _) (fun _ _ x => .inl x) _ _ p2)
                  have q' := RepOnes.mono hkeeps (fun _ _ x => x) _ _ q
                  have huse : us.toList.length = cap * s := by simpa using hsz
                  have e2 := splice_take (A := us.toList) (Y := (a.eval y).cells.toList) (X := i * s) (s := s) (R := rows.length * s) (off := off) (n := n) (by omega) (by omega) (by simp; omega) (by omega)
                  rw [show i * s + s = (i + 1) * s by rw [Nat.add_mul]; omega] at e2
                  rw [e2]
                  exact q')
              exact h2.putD (sv := .undef) hd trivial
            · simp at hu
          · simp at hu
      · simp at hu
    · next id ver i off heq =>
      rw [heq] at hrelx
      split at hu
      · next cv s rows ln vs fz hl hiv =>
        split at hu
        · simp at hu
        · next hro =>
          simp only [Bool.or_eq_true, List.contains_iff_mem, not_or] at hro
          split at hu
          · next hver =>
            have hver : ver = cv := by simpa using hver
            split at hu
            · next row hrow =>
              obtain rfl := Option.some.inj hu
              obtain ⟨hcl, hle⟩ : cs.length = n ∧ off + n ≤ row.length := hs
              obtain ⟨_, hv0⟩ := hrelx _ _ _ _ hl
              obtain ⟨b, cap, hm, hv⟩ := hv0 hver
              have hi : i < rows.length := by
                rcases Nat.lt_or_ge i rows.length with hh | hh
                · exact hh
                · simp [List.getElem?_eq_none hh] at hrow
              obtain ⟨us, e, fr, hb, hh, hf, hsz, hle2, hlens, hrep, hlnr⟩ := tab_block h hl hm (by intro e; subst e; simp at hi)
              have hrl : row.length = s := hlens row (List.mem_of_getElem? hrow)
              have hroom : (i + 1) * s ≤ rows.length * s := Nat.mul_le_mul_right _ hi
              have hroom2 : rows.length * s ≤ cap * s := Nat.mul_le_mul_right _ hle2
              rw [Nat.add_mul] at hroom
              obtain ⟨w', vs', r1, r2, r3⟩ := run_storeCells P (off := i * s + off) (a.eval y).cells.toList 0 us w hh hf (by simp; omega) (SVOnes.oneCells hcr)
              have h0 := h.freeze fz
              have hiv2 := toIVs1_soundOnes h hiv (fun _ x => x) hcr
              have hvl := RepOnes.length hiv2
              simp only [Array.length_toList] at hvl
              refine ⟨_, Go.undef, w', hrun hv (by omega) r1, .inr ⟨rfl, rfl⟩, Plus S β σ.objs fz, μ, β, ?_⟩
              have hro' : id ∉ fz ++ σ.ro := by
                rw [List.mem_append, not_or]
                exact ⟨hro.2, hro.1⟩
              have hkeeps : Keeps (Plus S β σ.objs fz) w w' := by
                refine ⟨?_, r2.shape⟩
                intro b' off' hS
                have : b' ≠ b := by
                  rintro rfl
                  exact hro' (h0.unst id _ b' off' hl hb hS).1
                exact cell_of_heap (r2.other b' this) off'
              have hnl : (row.take off ++ vs ++ row.drop (off + n)).length = s := by
                simp only [List.length_append, List.length_take, List.length_drop]; omega
              have h2 := h0.write hl hb r2 hro' (.inr (.inr ⟨cv, s, rows, _, _, _, rfl, rfl, by simp⟩)) (x' := .tab cv s (rows.set i (row.take off ++ vs ++ row.drop (off + n))) (lnNew i off cs ++ lnCut i off (off + n) ln)) (by
                have hss : vs'.size = us.size := by
                  have := congrArg List.length r3
                  simp only [Array.length_toList, List.length_append, List.length_take, List.length_drop] at this
                  omega
                refine .inr ⟨b, cap, vs', e, fr, rfl, ?_, r2.here, ?_, ?_, ?_, ?_, ?_, ?_⟩
                · rw [List.length_set]; exact hm
                · rw [hss]; exact hf
                · rw [hss]; exact hsz
                · rw [List.length_set]; exact hle2
                · intro r hr
                  rcases List.mem_or_eq_of_mem_set hr with hr | rfl
                  · exact hlens r hr
                  · exact hnl
                · rw [List.length_set, flatten_set hlens hrow hnl, r3]
                  simp only [Nat.add_zero, Array.length_toList]
                  rw [show i * s + off + (a.eval y).cells.size = i * s + (off + n) by omega]
                  have hrow' := flatten_row hlens hrow
                  have p1 := RepOnes.take (i * s) hrep
                  have p2 := RepOnes.drop ((i + 1) * s) hrep
                  have p3 := RepOnes.take s (RepOnes.drop (i * s) hrep)
                  rw [hrow'] at p3
                  have q := RepOnes.append (RepOnes.append (RepOnes.mono (Keeps.refl _ _) (fun _ _ x => .inl x) _ _ p1) (RepOnes.append (RepOnes.append (RepOnes.mono (Keeps.refl _ _) (fun _ _ x => .inl x) _ _ (RepOnes.take off p3)) hiv2) (RepOnes.mono (Keeps.refl _ _) (fun _ _ x => .inl x) _ _ (RepOnes.drop (off + n) p3)))) (RepOnes.mono (Keeps.refl _ _) (fun _ _ x => .inl x) _ _ p2)
                  have q' := RepOnes.mono hkeeps (fun _ _ x => x) _ _ q
                  have huse : us.toList.length = cap * s := by simpa using hsz
                  have e2 := splice_take (A := us.toList) (Y := (a.eval y).cells.toList) (X := i * s) (s := s) (R := rows.length * s) (off := off) (n := n) (by omega) (by omega) (by simp; omega) (by omega)
                  rw [show i * s + s = (i + 1) * s by rw [Nat.add_mul]; omega] at e2
                  rw [e2]
                  exact q'
                · rw [List.length_set]
                  have hyl : (a.eval y).cells.toList.length = n := by simp; omega
                  have hul : us.toList.length = cap * s := by simpa using hsz
                  refine LnRel.mono hkeeps (fun _ _ x => x) (LnRel.mono (Keeps.refl _ _) (fun _ _ x => .inl x) (LnRel.append ?_ ?_))
                  · refine lnNew_rel hi hcr (fun j v hj => ?_) (by omega)
                    have hjl : j < n := by rw [← hyl]; exact (List.getElem?_eq_some_iff.1 hj).1
                    rw [r3, List.append_assoc, List.getElem?_append_right (by rw [List.length_take]; omega), List.length_take]
                    rw [List.getElem?_append_left (by omega)]
                    rw [← hj]
                    congr 1
                    omega
                  · refine lnCut_rel (vs := us.toList) (fun i' j hi' hj hn => ?_) hlnr
                    have hsep : i' * s + j < i * s + off ∨ i * s + off + n ≤ i' * s + j := by
                      rcases Nat.lt_trichotomy i' i with hlt | heq | hgt
                      · have := Nat.mul_le_mul_right s (show i' + 1 ≤ i from hlt)
                        rw [Nat.add_mul] at this
                        omega
                      · subst heq
                        have : ¬ (off ≤ j ∧ j < off + n) := fun hh => hn ⟨rfl, hh⟩
                        omega
                      · have := Nat.mul_le_mul_right s (show i + 1 ≤ i' from hgt)
                        rw [Nat.add_mul] at this
                        omega
                    rw [r3]
                    simp only [Nat.add_zero]
                    rcases hsep with hlt | hge
                    · rw [List.append_assoc, List.getElem?_append_left (by rw [List.length_take]; omega), List.getElem?_take_of_lt hlt]
                    · rw [List.getElem?_append_right (by rw [List.length_append, List.length_take]; omega), List.getElem?_drop]
                      congr 1
                      rw [List.length_append, List.length_take]
                      omega)
              exact h2.putD (sv := .undef) hd trivial
            · simp at hu
          · simp at hu
      · simp at hu
    · simp at hu

end
end Go.Vs
