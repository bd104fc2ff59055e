/- Value semantics, part 8: operations that take values apart, and loads, hold what the evaluator says. No conditions. -/
import Derived.Test.YtjfleklkloohgaaVs7
set_option linter.unusedVariables false
set_option linter.unusedSimpArgs false
namespace Go.Vs

theorem add_none (b o n : Nat) : (⟨b, o, none⟩ : Addr).add n = ⟨b, o + n, none⟩ := by
  unfold Addr.add
  split
  · next h => subst h; rfl
  · rfl

section
variable {P : Program} {w0 w : World} {S0 S : Stab} {M : Ctx} {σ : St} {a : Act} {μ : Nat → Value} {β : Nat → Option Nat} {o : Oper}

theorem loadVar_agg {t : TypeId} {n : Nat} (h : aggOf P t = some (some n)) {b off : Nat} {vs : List Value} (hl : vs.length = n) (hc : ∀ j v, vs[j]? = some v → w.cell? ⟨b, off + j, none⟩ = some v) :
    (loadVar t ⟨b, off, none⟩).run P w = .ok (.agg vs.toArray) w := by
  obtain ⟨d, i, h1, h2, h3, h4⟩ := aggOf_some h
  have := run_loadCells_list (P := P) w ⟨b, off, none⟩ vs (fun j v hj => by rw [add_none]; exact hc j v hj)
  unfold loadVar
  rw [hl] at this
  subst h3
  simp only [Sem.run_bind, run_isAgg h1, h4, Result.andThen_ok, if_true, run_sizeI h2, this, Sem.run_pure]
theorem loadVar_one {t : TypeId} (h : aggOf P t = some none) {ad : Addr} {v : Value} (hc : w.cell? ad = some v) : (loadVar t ad).run P w = .ok v w := by
  obtain ⟨d, i, h1, h2, h3, h4⟩ := aggOf_none h
  unfold loadVar
  simp only [Sem.run_bind, run_isAgg h1, h4, Result.andThen_ok, Bool.false_eq_true, if_false, run_load, hc]

theorem arr_block (h : SimG w0 S0 M σ a w S μ β) {id cv s : Nat} {rows : List (List IV)} (hl : look σ.objs id = some (.arr cv s rows)) {b cap : Nat} (hm : μ id = .slice (some ⟨b, 0, none⟩) rows.length cap) (hpos : rows ≠ [] ∨ 0 < cap) :
    ∃ vs e fr, β id = some b ∧ w.heap[b]? = some (.cells vs e fr) ∧ NoFrz fr vs.size ∧ vs.size = cap * s ∧ rows.length ≤ cap ∧ (∀ r ∈ rows, r.length = s) ∧ RepOnes w S rows.flatten (vs.toList.take (rows.length * s)) := by
  rcases h.objs id _ hl with ⟨hr, _, x, hx⟩ | ⟨b', cap', vs, e, fr, h1, h2, h3, h4, h5, h6, h7, h8⟩
  · exfalso
    rw [hm] at hx
    simp only [Value.slice.injEq] at hx
    rcases hpos with hp | hp
    · exact hp hr
    · omega
  · rw [hm] at h2
    simp only [Value.slice.injEq, Option.some.injEq, Addr.mk.injEq, and_true] at h2
    obtain ⟨rfl, _, rfl⟩ := h2
    exact ⟨vs, e, fr, h1, h3, h4, h5, h6, h7, h8⟩

theorem flatten_row : ∀ {rows : List (List IV)} {s i : Nat} {r : List IV}, (∀ r ∈ rows, r.length = s) → rows[i]? = some r → (rows.flatten.drop (i * s)).take s = r
  | [], _, _, _, _, h => by simp at h
  | r0 :: rs, s, 0, r, hl, h => by
    have : r0 = r := by simpa using h
    subst this
    have h1 := hl r0 (by simp)
    simp only [List.flatten_cons, Nat.zero_mul, List.drop_zero]
    rw [← h1, List.take_left']
    rfl
  | r0 :: rs, s, i + 1, r, hl, h => by
    have h1 := hl r0 (by simp)
    have ih := flatten_row (rows := rs) (s := s) (i := i) (r := r) (fun x hx => hl x (List.mem_cons_of_mem _ hx)) (by simpa using h)
    simp only [List.flatten_cons]
    rw [show (i + 1) * s = r0.length + i * s by rw [h1, Nat.add_mul]; omega, List.drop_append, List.drop_eq_nil_of_le (by omega)]
    simpa using ih

/-- The cells of an array's element. -/
theorem arr_row (h : SimG w0 S0 M σ a w S μ β) {id cv s i : Nat} {rows : List (List IV)} {row : List IV} (hl : look σ.objs id = some (.arr cv s rows)) {b cap : Nat} (hm : μ id = .slice (some ⟨b, 0, none⟩) rows.length cap) (hr : rows[i]? = some row) :
    ∃ us : List Value, RepOnes w S row us ∧ row.length = s ∧ ∀ j v, us[j]? = some v → w.cell? ⟨b, i * s + j, none⟩ = some v := by
  have hi : i < rows.length := by
    rcases Nat.lt_or_ge i rows.length with hh | hh
    · exact hh
    · simp [List.getElem?_eq_none hh] at hr
  obtain ⟨vs, e, fr, _, h3, _, h5, h6, h7, h8⟩ := arr_block h hl hm (.inl (by intro e; subst e; simp at hi))
  have hrow : row.length = s := h7 row (List.mem_of_getElem? hr)
  have hx := RepOnes.take s (RepOnes.drop (i * s) h8)
  rw [flatten_row h7 hr] at hx
  refine ⟨_, hx, hrow, fun j v hj => ?_⟩
  rw [cell_row h3]
  have hlt : i * s + j < rows.length * s := by
    have h9 := RepOnes.length hx
    have hj' : j < s := by
      rcases Nat.lt_or_ge j s with hh | hh
      · exact hh
      · rw [List.getElem?_take, if_neg (by omega)] at hj
        simp at hj
    have : (i + 1) * s ≤ rows.length * s := Nat.mul_le_mul_right _ hi
    rw [Nat.add_mul] at this
    omega
  rw [List.getElem?_take] at hj
  split at hj
  · rw [List.getElem?_drop, List.getElem?_take, if_pos hlt, Array.getElem?_toList] at hj
    simpa using hj
  · simp at hj

theorem box_cells (h : SimG w0 S0 M σ a w S μ β) {id off : Nat} {cells : List SV} (hl : look σ.objs id = some (.box cells)) {v : Value} (hr : SVRel w S μ σ.objs (.loc id off) v) :
    ∃ b vs e fr, β id = some b ∧ μ id = .pointer (some ⟨b, 0, none⟩) ∧ v = .pointer (some ⟨b, off, none⟩) ∧ w.heap[b]? = some (.cells vs e fr) ∧ NoFrz fr vs.size ∧ SVOnes w S μ σ.objs cells vs.toList := by
  obtain ⟨b, hm, rfl⟩ := hr _ hl
  obtain ⟨b', us, e, fr, hb, hm', hh, hf, hs⟩ := h.objs id _ hl
  obtain rfl : b' = b := by rw [hm] at hm'; simpa using hm'.symm
  exact ⟨b', us, e, fr, hb, hm, rfl, hh, hf, hs⟩

theorem snd_load (h : SimG w0 S0 M σ a w S μ β) (hd : ∀ d, o.dst = some d → d < σ.n) {t : TypeId} {x : Operand} {x' : Opd} {g : Option Nat} (ho : o.op = .load t x) (hx : compOpd x = some x') (hg : aggOf P t = some g)
    {u : Upd} (hu : evLoad σ g (val σ x') = some u) (hs : u.side) : Does P o a w (fun v w' => Sim w0 S0 M (σ.apply o.dst u) (a.put o.dst v) w') := by
  have hrel := opd_sound h hx
  unfold evLoad at hu
  split at hu
  · next cells heq =>
    rw [heq] at hrel
    obtain ⟨b, off, hv, hcells⟩ := hrel
    obtain ⟨vs, hr, hc⟩ := RepCells.vals hcells
    split at hu
    · next n =>
      obtain rfl := Option.some.inj hu
      have hs : n ≤ cells.length := hs
      refine does_pure0 h hd (v := .agg (vs.take n).toArray) ?_ ⟨(vs.take n).toArray, rfl, by simpa using RepOnes.take n hr⟩
      have hlen : (vs.take n).length = n := by rw [List.length_take, RepOnes.length hr]; omega
      simp only [execOp, ho, hv, Instr.loadAt, Instr.sureAddr, Sem.run_bind, Sem.run_pure, Result.andThen_ok]
      rw [loadVar_agg hg hlen (fun j v hj => hc j v (by
        rw [List.getElem?_take] at hj
        split at hj
        · exact hj
        · simp at hj))]
      rfl
    · split at hu
      · next c cs =>
        obtain rfl := Option.some.inj hu
        obtain ⟨v, h1, _, h2⟩ := RepOnes.get (j := 0) hr rfl
        refine does_pure0 h hd (v := v) ?_ h2
        simp only [execOp, ho, hv, Instr.loadAt, Instr.sureAddr, Sem.run_bind, Sem.run_pure, Result.andThen_ok]
        rw [loadVar_one hg (v := v) (by simpa using hc 0 v h1)]
        rfl
      · simp at hu
  · next id off heq =>
    rw [heq] at hrel
    split at hu
    · next cells hl =>
      obtain ⟨b, vs, e, fr, _, _, hv, hh, _, hr⟩ := box_cells h hl hrel
      split at hu
      · next n =>
        obtain rfl := Option.some.inj hu
        have hs : off + n ≤ cells.length := hs
        have hr' := SVOnes.take n (SVOnes.drop off hr)
        refine does_pure0 h hd (v := .agg ((vs.toList.drop off).take n).toArray) ?_ (mkAgg_sound hr')
        have hlen : ((vs.toList.drop off).take n).length = n := by
          have := SVOnes.length hr
          rw [List.length_take, List.length_drop]; omega
        simp only [execOp, ho, hv, Instr.loadAt, Instr.sureAddr, Sem.run_bind, Sem.run_pure, Result.andThen_ok]
        rw [loadVar_agg hg hlen (fun j v hj => by
          rw [List.getElem?_take] at hj
          split at hj
          · rw [List.getElem?_drop, Array.getElem?_toList] at hj
            rw [cell_row hh]; exact hj
          · simp at hj)]
        rfl
      · split at hu
        · next c hc =>
          obtain rfl := Option.some.inj hu
          obtain ⟨v, h1, _, h2⟩ := SVOnes.get hr hc
          refine does_pure0 h hd (v := v) ?_ h2
          simp only [execOp, ho, hv, Instr.loadAt, Instr.sureAddr, Sem.run_bind, Sem.run_pure, Result.andThen_ok]
          rw [loadVar_one hg (v := v) (by rw [cell_row hh]; rw [Array.getElem?_toList] at h1; exact h1)]
          rfl
        · simp at hu
    · simp at hu
  · next id ver i off heq =>
    rw [heq] at hrel
    split at hu
    · next cv s rows hl =>
      split at hu
      · next hver =>
        have hver : ver = cv := by simpa using hver
        obtain ⟨_, hr0⟩ := hrel _ _ _ hl
        obtain ⟨b, cap, hm, hv⟩ := hr0 hver
        split at hu
        · next row hrow =>
          obtain ⟨us, hr, hlen, hc⟩ := arr_row h hl hm hrow
          split at hu
          · next n =>
            obtain rfl := Option.some.inj hu
            have hs : off + n ≤ row.length := hs
            refine does_pure0 h hd (v := .agg ((us.drop off).take n).toArray) ?_ ⟨_, rfl, by simpa using RepOnes.take n (RepOnes.drop off hr)⟩
            have hl2 : ((us.drop off).take n).length = n := by
              have := RepOnes.length hr
              rw [List.length_take, List.length_drop]; omega
            simp only [execOp, ho, hv, Instr.loadAt, Instr.sureAddr, Sem.run_bind, Sem.run_pure, Result.andThen_ok]
            rw [loadVar_agg hg hl2 (fun j v hj => by
              rw [List.getElem?_take] at hj
              split at hj
              · rw [List.getElem?_drop] at hj
                have := hc _ _ hj
                rwa [← Nat.add_assoc] at this
              · simp at hj)]
            rfl
          · split at hu
            · next c hcc =>
              obtain rfl := Option.some.inj hu
              obtain ⟨v, h1, _, h2⟩ := RepOnes.get hr hcc
              refine does_pure0 h hd (v := v) ?_ h2
              simp only [execOp, ho, hv, Instr.loadAt, Instr.sureAddr, Sem.run_bind, Sem.run_pure, Result.andThen_ok]
              rw [loadVar_one hg (v := v) (hc _ _ h1)]
              rfl
            · simp at hu
        · simp at hu
      · simp at hu
    · simp at hu
  · simp at hu

theorem fieldPlace_run {b off : Nat} {f : Field} {n : Nat} (hs : sizeT P f.type = some n) (hn : n ≠ 0) : (fieldPlace ⟨b, off, none⟩ f).run P w = .ok ⟨b, off + f.offset, none⟩ w := by
  unfold fieldPlace
  simp only [Sem.run_bind, run_sizeT hs, Result.andThen_ok, hn, if_false, Sem.run_pure, add_none]

theorem snd_fieldAddr (h : SimG w0 S0 M σ a w S μ β) (hd : ∀ d, o.dst = some d → d < σ.n) {t : TypeId} {fs : Array Field} {f : Nat} {g : Field} {n : Nat} {x : Operand} {x' : Opd} (ho : o.op = .fieldAddr t x f)
    (ht : P.underlying t = some (.struct fs)) (hf : fs[f]? = some g) (hsz : sizeT P g.type = some n) (hn : n ≠ 0) (hx : compOpd x = some x') {u : Upd} (hu : ev σ o.dst (.fieldAddr g.offset x') = some u) :
    Does P o a w (fun v w' => Sim w0 S0 M (σ.apply o.dst u) (a.put o.dst v) w') := by
  have hrel := opd_sound h hx
  have hrun : ∀ {b off : Nat}, a.eval x = .pointer (some ⟨b, off, none⟩) → (execOp a.eval o).run P w = .ok (.value (.pointer (some ⟨b, off + g.offset, none⟩))) w := by
    intro b off hv
    simp only [execOp, ho, hv, Instr.fieldAt, Sem.run_bind, run_underlying ht, Result.andThen_ok, hf, Instr.sureAddr, Sem.run_pure, fieldPlace_run hsz hn]
  simp only [ev] at hu
  split at hu
  · next cells heq =>
    rw [heq] at hrel
    obtain ⟨b, off, hv, hcells⟩ := hrel
    obtain rfl := Option.some.inj hu
    exact does_pure0 h hd (hrun hv) ⟨b, off + g.offset, rfl, RepCells.drop _ hcells⟩
  · next id off heq =>
    rw [heq] at hrel
    split at hu
    · next cells hl =>
      obtain rfl := Option.some.inj hu
      obtain ⟨b, vs, e, fr, _, hm, hv, _, _, _⟩ := box_cells h hl hrel
      exact does_pure0 h hd (hrun hv) (fun cells' hl' => ⟨b, hm, rfl⟩)
    · simp at hu
  · next id ver i off heq =>
    rw [heq] at hrel
    split at hu
    · next cv s rows hl =>
      split at hu
      · next hver =>
        have hver : ver = cv := by simpa using hver
        obtain ⟨hle, hr0⟩ := hrel _ _ _ hl
        obtain ⟨b, cap, hm, hv⟩ := hr0 hver
        obtain rfl := Option.some.inj hu
        refine does_pure0 h hd (hrun hv) (fun cv' s' rows' hl' => ?_)
        rw [hl] at hl'
        simp only [Option.some.injEq, Ob.arr.injEq] at hl'
        obtain ⟨rfl, rfl, rfl⟩ := hl'
        exact ⟨hle, fun _ => ⟨b, cap, hm, by rw [Nat.add_assoc]⟩⟩
      · simp at hu
    · simp at hu
  · simp at hu

theorem snd_part (h : SimG w0 S0 M σ a w S μ β) (hd : ∀ d, o.dst = some d → d < σ.n) {ft : TypeId} {g : Option Nat} (hg : aggOf P ft = some g) {off : Nat} {sv : SV} {v : Value} (hrel : SVRel w S μ σ.objs sv v)
    (hrun : ∀ vs u, v = .agg vs → (part ft vs off).run P w = .ok u w → (execOp a.eval o).run P w = .ok (.value u) w) {u : Upd}
    (hu : evPart off g sv = some u) :
    Does P o a w (fun v w' => Sim w0 S0 M (σ.apply o.dst u) (a.put o.dst v) w') := by
  unfold evPart at hu
  split at hu
  · next cells =>
    obtain ⟨vs, rfl, hr⟩ := hrel
    split at hu
    · next n =>
      obtain rfl := Option.some.inj hu
      obtain ⟨d, i, h1, h2, h3, h4⟩ := aggOf_some hg
      have hsz : sizeT P ft = some n := by simp [sizeT, h2, h3]
      exact does_pure0 h hd (hrun vs _ rfl (run_part_agg h1 h4 hsz vs off)) ⟨_, rfl, hr.extract off n⟩
    · split at hu
      · next c hc =>
        obtain rfl := Option.some.inj hu
        obtain ⟨v, h5, _, h6⟩ := RepOnes.get hr hc
        obtain ⟨d, i, h1, h2, h3, h4⟩ := aggOf_none hg
        exact does_pure0 h hd (hrun vs _ rfl (run_part_one h1 h4 vs off (by simpa using h5))) h6
      · simp at hu
  · next cells =>
    obtain ⟨vs, rfl, hr⟩ := hrel
    split at hu
    · next n =>
      obtain rfl := Option.some.inj hu
      obtain ⟨d, i, h1, h2, h3, h4⟩ := aggOf_some hg
      have hsz : sizeT P ft = some n := by simp [sizeT, h2, h3]
      refine does_pure0 h hd (hrun vs _ rfl (run_part_agg h1 h4 hsz vs off)) ?_
      have := mkAgg_sound (SVOnes.take n (SVOnes.drop off hr))
      have he : ((vs.toList.drop off).take n).toArray = vs.extract off (off + n) := by
        apply Array.toList_inj.1
        rw [Array.toList_extract, List.extract_eq_take_drop, Nat.add_sub_cancel_left]
      rw [he] at this
      exact this
    · split at hu
      · next c hc =>
        obtain rfl := Option.some.inj hu
        obtain ⟨v, h5, _, h6⟩ := SVOnes.get hr hc
        obtain ⟨d, i, h1, h2, h3, h4⟩ := aggOf_none hg
        exact does_pure0 h hd (hrun vs _ rfl (run_part_one h1 h4 vs off (by simpa using h5))) h6
      · simp at hu
  · simp at hu

theorem snd_field (h : SimG w0 S0 M σ a w S μ β) (hd : ∀ d, o.dst = some d → d < σ.n) {t : TypeId} {fs : Array Field} {f : Nat} {fg : Field} {g : Option Nat} {x : Operand} {x' : Opd} (ho : o.op = .field t x f)
    (ht : P.underlying t = some (.struct fs)) (hf : fs[f]? = some fg) (hg : aggOf P fg.type = some g) (hx : compOpd x = some x') {u : Upd} (hu : ev σ o.dst (.field fg.offset g x') = some u) :
    Does P o a w (fun v w' => Sim w0 S0 M (σ.apply o.dst u) (a.put o.dst v) w') := by
  refine snd_part h hd hg (opd_sound h hx) ?_ hu
  intro vs u hv hrun
  simp only [execOp, ho, hv, Instr.field, Sem.run_bind, run_underlying ht, Result.andThen_ok, hf, asAgg, Sem.run_pure, hrun]

theorem snd_extract (h : SimG w0 S0 M σ a w S μ β) (hd : ∀ d, o.dst = some d → d < σ.n) {x : Operand} {x' : Opd} {i : Nat} (ho : o.op = .extract x i) (hx : compOpd x = some x') {u : Upd} (hu : ev σ o.dst (.extract x' i) = some u) :
    Does P o a w (fun v w' => Sim w0 S0 M (σ.apply o.dst u) (a.put o.dst v) w') := by
  have hrel := opd_sound h hx
  simp only [ev] at hu
  split at hu
  · next vs heq =>
    rw [heq] at hrel
    obtain ⟨us, hv, hr⟩ := hrel
    split at hu
    · next v hc =>
      obtain rfl := Option.some.inj hu
      obtain ⟨v', h1, h2⟩ := RepList.get hr hc
      refine does_pure0 h hd (v := v') ?_ h2
      have h1' : us[i]? = some v' := by simpa using h1
      simp only [execOp, ho, hv, Instr.extract, h1', Sem.run_bind, Sem.run_pure, Result.andThen_ok]
    · simp at hu
  · simp at hu

theorem snd_mkIface (h : SimG w0 S0 M σ a w S μ β) (hd : ∀ d, o.dst = some d → d < σ.n) {t : TypeId} {d : TypeDesc} {x : Operand} {x' : Opd} (ho : o.op = .makeInterface t x) (ht : P.underlying t = some d) (hi : ∀ ms, d ≠ .interface ms)
    (hx : compOpd x = some x') {u : Upd} (hu : ev σ o.dst (.mkIface t x') = some u) : Does P o a w (fun v w' => Sim w0 S0 M (σ.apply o.dst u) (a.put o.dst v) w') := by
  have hrel := opd_sound h hx
  have hrun : (execOp a.eval o).run P w = .ok (.value (.iface t (a.eval x))) w := by
    simp only [execOp, ho, Instr.makeInterface, Sem.run_bind, run_underlying ht, Result.andThen_ok]
    cases d <;> first | rfl | exact absurd rfl (hi _)
  simp only [ev] at hu
  split at hu
  · next v heq =>
    rw [heq] at hrel
    obtain rfl := Option.some.inj hu
    exact does_pure0 h hd hrun ⟨_, rfl, hrel⟩
  · next id off heq =>
    rw [heq] at hrel
    obtain rfl := Option.some.inj hu
    exact does_pure0 h hd hrun ⟨_, rfl, hrel⟩
  · simp at hu

theorem snd_mkFunc (h : SimG w0 S0 M σ a w S μ β) (hd : ∀ d, o.dst = some d → d < σ.n) {f : FuncId} {caps : Array Operand} {caps' : List Opd} (ho : o.op = .makeFunc (.func f) #[] caps) (hc : compOpds caps.toList = some caps')
    {u : Upd} (hu : ev σ o.dst (.mkFunc f caps') = some u) : Does P o a w (fun v w' => Sim w0 S0 M (σ.apply o.dst u) (a.put o.dst v) w') := by
  have hrun : (execOp a.eval o).run P w = .ok (.value (.func (.func f) #[] (caps.map a.eval))) w := by
    simp [execOp, ho, Instr.makeFunc]
  have hrel := opds_sound h hc
  simp only [ev] at hu
  split at hu
  · obtain rfl := Option.some.inj hu
    refine does_pure0 h hd hrun ⟨_, rfl, ?_⟩
    simpa [RepList, SVList] using hrel
  · obtain rfl := Option.some.inj hu
    exact does_pure0 h hd hrun ⟨_, rfl, by simpa using hrel⟩

theorem snd_nilCheck (h : SimG w0 S0 M σ a w S μ β) (hd : ∀ d, o.dst = some d → d < σ.n) {x : Operand} {x' : Opd} (ho : o.op = .nilCheck x) (hx : compOpd x = some x') {u : Upd} (hu : ev σ o.dst (.nilCheck x') = some u) :
    Does P o a w (fun v w' => Sim w0 S0 M (σ.apply o.dst u) (a.put o.dst v) w') := by
  have hrel := opd_sound h hx
  simp only [ev] at hu
  split at hu
  · next cs heq =>
    rw [heq] at hrel
    obtain rfl := Option.some.inj hu
    obtain ⟨b, off, hv, hcells⟩ := hrel
    exact does_pure0 h hd (v := .pointer (some ⟨b, off, none⟩)) (by simp only [execOp, ho, hv]; rfl) ⟨b, off, rfl, hcells⟩
  · next id off heq =>
    rw [heq] at hrel
    split at hu
    · next cells hl =>
      obtain rfl := Option.some.inj hu
      obtain ⟨b, vs, e, fr, _, hm, hv, _, _, _⟩ := box_cells h hl hrel
      exact does_pure0 h hd (v := .pointer (some ⟨b, off, none⟩)) (by simp only [execOp, ho, hv]; rfl) (fun cells' hl' => ⟨b, hm, rfl⟩)
    · simp at hu
  · next f cs heq =>
    rw [heq] at hrel
    obtain rfl := Option.some.inj hu
    obtain ⟨vs, hv, hcells⟩ := hrel
    exact does_pure0 h hd (v := .func (.func f) #[] vs) (by simp only [execOp, ho, hv]; rfl) ⟨vs, rfl, hcells⟩
  · next f cs heq =>
    rw [heq] at hrel
    obtain rfl := Option.some.inj hu
    obtain ⟨vs, hv, hcells⟩ := hrel
    exact does_pure0 h hd (v := .func (.func f) #[] vs) (by simp only [execOp, ho, hv]; rfl) ⟨vs, rfl, hcells⟩
  · simp at hu

theorem intOf_sound {x : SV} {v : Value} {n : Int} {objs : List (Nat × Ob)} (hr : SVRel w S μ objs x v) (h : intOf x = some n) : ∃ k, v = .int k n := by
  unfold intOf at h
  split at h
  · next k m =>
    obtain rfl := Option.some.inj h
    exact ⟨k, hr⟩
  · simp at h

theorem snd_indexAddr (h : SimG w0 S0 M σ a w S μ β) (hd : ∀ d, o.dst = some d → d < σ.n) {t e : TypeId} {s : Nat} {x i : Operand} {x' i' : Opd} (ho : o.op = .indexAddr t x i) (ht : P.underlying t = some (.slice e)) (hsz : sizeT P e = some s)
    (hx : compOpd x = some x') (hi : compOpd i = some i') {u : Upd} (hu : ev σ o.dst (.indexAddr s x' i') = some u) (hs : u.side) : Does P o a w (fun v w' => Sim w0 S0 M (σ.apply o.dst u) (a.put o.dst v) w') := by
  have hrel := opd_sound h hx
  have hreli := opd_sound h hi
  simp only [ev] at hu
  split at hu
  · next k n heqi =>
    rw [heqi] at hreli
    have hiv : a.eval i = .int k n := hreli
    have hrun : ∀ {b off len cap : Nat}, a.eval x = .slice (some ⟨b, off, none⟩) len cap → 0 ≤ n → n.toNat < len → (execOp a.eval o).run P w = .ok (.value (.pointer (some ⟨b, off + n.toNat * s, none⟩))) w := by
      intro b off len cap hv h0 hlt
      simp only [execOp, ho, hv, hiv, Instr.indexAt, asIntOf, Sem.run_bind, Sem.run_pure, Result.andThen_ok, run_underlying ht]
      rw [if_pos ⟨h0, by omega⟩]
      simp only [Sem.run_bind, run_sizeT hsz, Result.andThen_ok, Sem.run_pure, add_none]
    split at hu
    · next h0 =>
      split at hu
      · next rows heq =>
        rw [heq] at hrel
        split at hu
        · next row hrow =>
          obtain rfl := Option.some.inj hu
          have hs : row.length = s := hs
          obtain ⟨ad, cap, hv, hle, hc⟩ := hrel
          have hlt : n.toNat < rows.length := by
            rcases Nat.lt_or_ge n.toNat rows.length with hh | hh
            · exact hh
            · simp [List.getElem?_eq_none hh] at hrow
          obtain ⟨b, off, s', rfl, hrows⟩ := hc (by intro e; subst e; simp at hlt)
          obtain ⟨h1, h2⟩ := RepRows.get hrows hrow
          have hss : s' = s := h1.symm.trans hs
          subst hss
          exact does_pure0 h hd (hrun hv h0 hlt) ⟨b, _, rfl, h2⟩
        · simp at hu
      · next id ver heq =>
        rw [heq] at hrel
        split at hu
        · next cv s' rows hl =>
          split at hu
          · next hver =>
            have hver : ver = cv := by simpa using hver
            obtain rfl := Option.some.inj hu
            obtain ⟨hlt, hss⟩ : n.toNat < rows.length ∧ s' = s := hs
            subst hss
            obtain ⟨hle, hv0⟩ := hrel _ _ _ hl
            have hv := hv0 hver
            rcases h.objs id _ hl with ⟨hr, _, _⟩ | ⟨b, cap, vs, e', fr, h1, h2, _⟩
            · subst hr; simp at hlt
            · rw [h2] at hv
              refine does_pure0 h hd (hrun hv h0 hlt) (fun cv' s'' rows' hl' => ?_)
              rw [hl] at hl'
              simp only [Option.some.injEq, Ob.arr.injEq] at hl'
              obtain ⟨rfl, rfl, rfl⟩ := hl'
              exact ⟨hle, fun _ => ⟨b, cap, h2, by simp⟩⟩
          · simp at hu
        · simp at hu
      · next id ver lo hi heq =>
        rw [heq] at hrel
        split at hu
        · next cv s' rows hl =>
          split at hu
          · next hver =>
            obtain rfl : ver = cv := by simpa using hver
            obtain rfl := Option.some.inj hu
            obtain ⟨hlt, hss⟩ : n.toNat < hi - lo ∧ s' = s := hs
            subst hss
            obtain ⟨hle, hv0⟩ := hrel _ _ _ hl
            obtain ⟨g1, g2, x1, cap, y1, g3, g4, g5, g6⟩ := hv0 rfl
            obtain ⟨b, k1, k2⟩ := g6 (by omega)
            rw [k2] at g4
            refine does_pure0 h hd (hrun g4 h0 (by omega)) (fun cv' s'' rows' hl' => ?_)
            rw [hl] at hl'
            simp only [Option.some.injEq, Ob.arr.injEq] at hl'
            obtain ⟨rfl, rfl, rfl⟩ := hl'
            exact ⟨hle, fun _ => ⟨b, cap, by rw [g3, k1], by simp [Nat.add_mul]⟩⟩
          · simp at hu
        · simp at hu
      · simp at hu
    · simp at hu
  · simp at hu

theorem snd_indexArr (h : SimG w0 S0 M σ a w S μ β) (hd : ∀ d, o.dst = some d → d < σ.n) {t e : TypeId} {len s : Nat} {x i : Operand} {x' i' : Opd} (ho : o.op = .indexAddr t x i) (ht : P.underlying t = some (.array len e)) (hsz : sizeT P e = some s)
    (hx : compOpd x = some x') (hi : compOpd i = some i') {u : Upd} (hu : ev σ o.dst (.indexArr len s x' i') = some u) (hs : u.side) : Does P o a w (fun v w' => Sim w0 S0 M (σ.apply o.dst u) (a.put o.dst v) w') := by
  have hrel := opd_sound h hx
  have hreli := opd_sound h hi
  have hrun : ∀ {b off : Nat} {k : IntKind} {n : Int}, a.eval x = .pointer (some ⟨b, off, none⟩) → a.eval i = .int k n → 0 ≤ n → n < len → (execOp a.eval o).run P w = .ok (.value (.pointer (some ⟨b, off + n.toNat * s, none⟩))) w := by
    intro b off k n hv hiv h0 hlt
    simp only [execOp, ho, hv, hiv, Instr.indexAt, asIntOf, Sem.run_bind, Sem.run_pure, Result.andThen_ok, run_underlying ht, Instr.sureAddr]
    rw [if_pos ⟨h0, hlt⟩]
    simp only [Sem.run_bind, run_sizeT hsz, Result.andThen_ok, Sem.run_pure, add_none]
  simp only [ev] at hu
  split at hu
  · next id off k n heq heqi =>
    rw [heq] at hrel
    rw [heqi] at hreli
    split at hu
    · next cells hl =>
      obtain rfl := Option.some.inj hu
      obtain ⟨h0, hlt⟩ : 0 ≤ n ∧ n < len := hs
      obtain ⟨b, vs, e', fr, _, hm, hv, _, _, _⟩ := box_cells h hl hrel
      exact does_pure0 h hd (hrun hv hreli h0 hlt) (fun cells' hl' => ⟨b, hm, rfl⟩)
    · simp at hu
  · next cells k n heq heqi =>
    rw [heq] at hrel
    rw [heqi] at hreli
    obtain rfl := Option.some.inj hu
    obtain ⟨h0, hlt⟩ : 0 ≤ n ∧ n < len := hs
    obtain ⟨b, off, hv, hcells⟩ := hrel
    exact does_pure0 h hd (hrun hv hreli h0 hlt) ⟨b, _, rfl, RepCells.drop _ hcells⟩
  · simp at hu

theorem snd_indexS (h : SimG w0 S0 M σ a w S μ β) (hd : ∀ d, o.dst = some d → d < σ.n) {t : TypeId} {x i : Operand} {x' i' : Opd} (ho : o.op = .index t x i) (ht : P.underlying t = some .string)
    (hx : compOpd x = some x') (hi : compOpd i = some i') {u : Upd} (hu : ev σ o.dst (.indexS x' i') = some u) : Does P o a w (fun v w' => Sim w0 S0 M (σ.apply o.dst u) (a.put o.dst v) w') := by
  have hrel := opd_sound h hx
  have hreli := opd_sound h hi
  simp only [ev] at hu
  split at hu
  · next s k n heq heqi =>
    rw [heq] at hrel
    rw [heqi] at hreli
    split at hu
    · next h0 =>
      split at hu
      · next b hb =>
        obtain rfl := Option.some.inj hu
        refine does_pure0 h hd (v := .int .u8 b.toNat) ?_ rfl
        have hv : a.eval x = .string ⟨s.toArray⟩ := hrel
        have hiv : a.eval i = .int k n := hreli
        simp only [execOp, ho, hv, hiv, Instr.index, asIntOf, Sem.run_bind, Sem.run_pure, Result.andThen_ok, run_underlying ht, h0, if_true, ba_get, hb]
      · simp at hu
    · simp at hu
  · simp at hu

theorem snd_indexA (h : SimG w0 S0 M σ a w S μ β) (hd : ∀ d, o.dst = some d → d < σ.n) {t e : TypeId} {len s : Nat} {g : Option Nat} {x i : Operand} {x' i' : Opd} (ho : o.op = .index t x i) (ht : P.underlying t = some (.array len e)) (hg : aggOf P e = some g) (hsz : sizeT P e = some s)
    (hx : compOpd x = some x') (hi : compOpd i = some i') {u : Upd} (hu : ev σ o.dst (.indexA len s g x' i') = some u) : Does P o a w (fun v w' => Sim w0 S0 M (σ.apply o.dst u) (a.put o.dst v) w') := by
  have hrel := opd_sound h hx
  have hreli := opd_sound h hi
  simp only [ev] at hu
  split at hu
  · next k n heqi =>
    rw [heqi] at hreli
    have hiv : a.eval i = .int k n := hreli
    split at hu
    · next hb =>
      refine snd_part (off := n.toNat * s) h hd hg hrel (fun vs u hv hp => ?_) hu
      simp only [execOp, ho, hv, hiv, Instr.index, asIntOf, Sem.run_bind, Sem.run_pure, Result.andThen_ok, run_underlying ht]
      rw [if_pos hb]
      simp only [Sem.run_bind, run_sizeT hsz, Result.andThen_ok, hp]
    · simp at hu
  · simp at hu

end
end Go.Vs
