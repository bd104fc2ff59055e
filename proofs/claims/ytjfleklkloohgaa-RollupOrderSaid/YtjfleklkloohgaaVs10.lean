/- Value semantics, part 10: stores and appends hold what the evaluator says. No conditions. -/
import Derived.Test.YtjfleklkloohgaaVs9
set_option linter.unusedVariables false
set_option linter.unusedSimpArgs false
namespace Go.Vs

/-- One row has been written, nothing else. -/
structure Wrote (w w' : World) (b : Nat) (vs : Array Value) (e : TypeId) (fr : Nat × Nat) : Prop where
  os : w'.os = w.os
  tape : w'.tape = w.tape
  output : w'.output = w.output
  size : w'.heap.size = w.heap.size
  other : ∀ k, k ≠ b → w'.heap[k]? = w.heap[k]?
  here : w'.heap[b]? = some (.cells vs e fr)

theorem setCell_wrote {w : World} {b off : Nat} {vs : Array Value} {e : TypeId} {fr : Nat × Nat} (h : w.heap[b]? = some (.cells vs e fr)) (v : Value) :
    Wrote w (w.setCell ⟨b, off, none⟩ v) b (vs.setIfInBounds off v) e fr := by
  refine ⟨rfl, rfl, rfl, by simp [World.setCell], fun k hk => ?_, ?_⟩
  · simp only [World.setCell, Array.getElem?_modify]
    rw [if_neg (by omega)]
  · simp only [World.setCell, Array.getElem?_modify, if_true, h]
    simp

theorem frozen_row {w : World} {b off : Nat} {vs : Array Value} {e : TypeId} {fr : Nat × Nat} (h : w.heap[b]? = some (.cells vs e fr)) (hf : NoFrz fr vs.size) (ho : off < vs.size) : w.frozen? ⟨b, off, none⟩ = false := by
  have := hf off ho
  simp only [World.frozen?, h]
  simp only [Bool.and_eq_false_iff, decide_eq_false_iff_not]
  omega

theorem run_storeCells (P : Program) {b off : Nat} {e : TypeId} {fr : Nat × Nat} : ∀ (us : List Value) (i : Nat) (vs : Array Value) (w : World), w.heap[b]? = some (.cells vs e fr) → NoFrz fr vs.size → off + i + us.length ≤ vs.size →
    (∀ u ∈ us, u.oneCell' = true) → ∃ w' vs', (storeCells ⟨b, off, none⟩ us i).run P w = .ok () w' ∧ Wrote w w' b vs' e fr ∧ vs'.toList = vs.toList.take (off + i) ++ us ++ vs.toList.drop (off + i + us.length)
  | [], i, vs, w, h, _, hle, _ => ⟨w, vs, rfl, ⟨rfl, rfl, rfl, rfl, fun _ _ => rfl, h⟩, by simp⟩
  | u :: us, i, vs, w, h, hf, hle, h1 => by
    simp only [List.length_cons] at hle
    have hlt : off + i < vs.size := by omega
    have hw := setCell_wrote (off := off + i) h u
    obtain ⟨w', vs', r1, r2, r3⟩ := run_storeCells (off := off) P us (i + 1) (vs.setIfInBounds (off + i) u) (w.setCell ⟨b, off + i, none⟩ u) hw.here (by simpa using hf) (by simp; omega) (fun x hx => h1 x (List.mem_cons_of_mem _ hx))
    refine ⟨w', vs', ?_, ⟨r2.os.trans hw.os, r2.tape.trans hw.tape, r2.output.trans hw.output, r2.size.trans hw.size, fun k hk => (r2.other k hk).trans (hw.other k hk), r2.here⟩, ?_⟩
    · have hc : w.cell? ⟨b, off + i, none⟩ = some vs[off + i] := by rw [cell_row h]; simp [hlt]
      simp only [storeCells, Sem.run_bind, add_none, run_store P w _ u .plain (h1 u (by simp)), hc, frozen_row h hf hlt, Bool.false_eq_true, if_false, Result.andThen_ok]
      exact r1
    · rw [r3]
      have hl : off + i < vs.toList.length := by simpa using hlt
      simp only [Array.toList_setIfInBounds, List.length_cons]
      have e1 : (vs.toList.set (off + i) u).take (off + (i + 1)) = vs.toList.take (off + i) ++ [u] := by
        rw [show off + (i + 1) = (off + i) + 1 by omega, List.take_succ_eq_append_getElem (by simpa using hl), List.take_set_of_le (Nat.le_refl _)]
        simp
      have e2 : (vs.toList.set (off + i) u).drop (off + (i + 1) + us.length) = vs.toList.drop (off + i + (us.length + 1)) := by
        rw [List.drop_set_of_lt (by omega)]
        congr 1; omega
      rw [e1, e2]
      simp

theorem splice_take {α : Type} {A Y : List α} {X s R off n : Nat} (h1 : X + s ≤ R) (h2 : R ≤ A.length) (h3 : Y.length = n) (h4 : off + n ≤ s) :
    (A.take (X + off) ++ Y ++ A.drop (X + (off + n))).take R =
      (A.take R).take X ++ ((((A.take R).drop X).take s).take off ++ Y ++ (((A.take R).drop X).take s).drop (off + n)) ++ (A.take R).drop (X + s) := by
  apply List.ext_getElem?
  intro j
  simp only [List.getElem?_take, List.getElem?_append, List.getElem?_drop, List.length_take, List.length_append, List.length_drop]
  by_cases c1 : j < X
  · simp only [show j < min (X + off) A.length by omega, show j < R by omega, show j < min X (min R A.length) by omega, show j < X + off by omega, show j < min (X + off) A.length + Y.length by omega, c1,
      show j < min X (min R A.length) + (min off (min s (min R A.length - X)) + Y.length + (min s (min R A.length - X) - (off + n))) by omega, if_true]
  · by_cases c2 : j < X + off
    · simp only [show j < min (X + off) A.length by omega, show j < R by omega, show ¬ j < min X (min R A.length) by omega, c2, show j < min (X + off) A.length + Y.length by omega,
        show j < min X (min R A.length) + (min off (min s (min R A.length - X)) + Y.length + (min s (min R A.length - X) - (off + n))) by omega, if_true, if_false,
        show j - min X (min R A.length) < min off (min s (min R A.length - X)) + Y.length by omega, show j - min X (min R A.length) < min off (min s (min R A.length - X)) by omega,
        show j - min X (min R A.length) < off by omega, show j - min X (min R A.length) < s by omega, show X + (j - min X (min R A.length)) < R by omega]
      congr 1; omega
    · by_cases c3 : j < X + off + n
      · simp only [show ¬ j < min (X + off) A.length by omega, show j < R by omega, show ¬ j < min X (min R A.length) by omega, show j < min (X + off) A.length + Y.length by omega,
          show j < min X (min R A.length) + (min off (min s (min R A.length - X)) + Y.length + (min s (min R A.length - X) - (off + n))) by omega, if_true, if_false,
          show j - min X (min R A.length) < min off (min s (min R A.length - X)) + Y.length by omega, show ¬ j - min X (min R A.length) < min off (min s (min R A.length - X)) by omega]
        congr 1; omega
      · by_cases c4 : j < X + s
        · simp only [show j < R by omega, show ¬ j < min X (min R A.length) by omega, show ¬ j < min (X + off) A.length + Y.length by omega,
            show j < min X (min R A.length) + (min off (min s (min R A.length - X)) + Y.length + (min s (min R A.length - X) - (off + n))) by omega, if_true, if_false,
            show ¬ j - min X (min R A.length) < min off (min s (min R A.length - X)) + Y.length by omega]
          rw [if_pos (by omega), if_pos (by omega)]
          congr 1; omega
        · simp only [show ¬ j < min (X + off) A.length + Y.length by omega,
            show ¬ j < min X (min R A.length) + (min off (min s (min R A.length - X)) + Y.length + (min s (min R A.length - X) - (off + n))) by omega, if_false]
          by_cases c5 : j < R
          · rw [if_pos c5, if_pos (by omega)]
            congr 1; omega
          · rw [if_neg c5, if_neg (by omega)]

section
variable {P : Program} {w0 w : World} {S0 S : Stab} {M : Ctx} {σ : St} {a : Act} {μ : Nat → Value} {β : Nat → Option Nat} {o : Oper}

theorem wrote_kept (h : SimG w0 S0 M σ a w S μ β) {id : Nat} {x : Ob} {b : Nat} (hl : look σ.objs id = some x) (hb : β id = some b) {w' : World} {vs : Array Value} {e : TypeId} {fr : Nat × Nat} (hw : Wrote w w' b vs e fr) : Kept M.blocks w0 w' := by
  refine ⟨hw.os.trans h.kept.os, hw.tape.trans h.kept.tape, hw.output.trans h.kept.output, by rw [hw.size]; exact h.kept.size, fun k hk hm => ?_⟩
  have : k ≠ b := by
    rintro rfl
    rcases h.own id x k hl hb with h1 | h1
    · omega
    · exact hm h1
  exact (hw.other k this).trans (h.kept.block k hk hm)

/-- An object that is not frozen is written in place. -/
theorem SimG.write (h : SimG w0 S0 M σ a w S μ β) {id : Nat} {x x' : Ob} {b : Nat} (hl : look σ.objs id = some x) (hb : β id = some b) {w' : World} {vs : Array Value} {e : TypeId} {fr : Nat × Nat} (hw : Wrote w w' b vs e fr) (hro : id ∉ σ.ro)
    (hkind : (∃ c c', x = .box c ∧ x' = .box c') ∨ (∃ cv s rows rows', x = .arr cv s rows ∧ x' = .arr cv s rows' ∧ rows.length = rows'.length))
    (hob : ObRel w' S μ σ.objs (some b) (μ id) x') : SimG w0 S0 M { σ with objs := Vs.put σ.objs id x' } a w' S μ β := by
  have hS : ∀ b' off, S b' off → b' ≠ b := by
    rintro b' off hS rfl
    exact hro (h.unst id x b' off hl hb hS).1
  have := h.turn hl (some b) (μ id) (w' := w') (fun b' off hS' => cell_of_heap (hw.other b' (hS b' off hS')) off) (wrote_kept h hl hb hw) (by rw [hw.size]; exact Nat.le_refl _)
    (fun id' y b' hid hl' hb' => hw.other b' (fun e => hid (h.inj id' id y x b' hl' hl hb' (e ▸ hb)))) ?_ hob (fun b' hb' => .inl (by rw [hb]; exact hb')) (fun b' off hb' hS' => absurd (Option.some.inj hb').symm (hS b' off hS'))
  · have e1 : (fun i => if i = id then μ id else μ i) = μ := by funext i; split <;> simp_all
    have e2 : (fun i => if i = id then some b else β i) = β := by funext i; split <;> simp_all
    rw [e1, e2] at this
    exact this
  · rcases hkind with ⟨c, c', h1, h2⟩ | ⟨cv, s, r, r', h1, h2, h3⟩
    · exact .inl ⟨c, c', h1, h2, rfl⟩
    · exact .inr ⟨cv, s, r, cv, r', h1, h2, Nat.le_refl _, fun _ => ⟨h3, rfl⟩⟩

theorem flatten_set : ∀ {rows : List (List IV)} {s i : Nat} {row row' : List IV}, (∀ r ∈ rows, r.length = s) → rows[i]? = some row → row'.length = s →
    (rows.set i row').flatten = rows.flatten.take (i * s) ++ row' ++ rows.flatten.drop ((i + 1) * s)
  | [], _, _, _, _, _, h, _ => by simp at h
  | r0 :: rs, s, 0, row, row', hl, h, hl' => by
    have h1 := hl r0 (by simp)
    simp only [List.set_cons_zero, List.flatten_cons, Nat.zero_mul, List.take_zero, List.nil_append, Nat.zero_add, Nat.one_mul]
    rw [← h1, List.drop_left']
    rfl
  | r0 :: rs, s, i + 1, row, row', hl, h, hl' => by
    have h1 := hl r0 (by simp)
    have ih := flatten_set (rows := rs) (s := s) (i := i) (row := row) (row' := row') (fun x hx => hl x (List.mem_cons_of_mem _ hx)) (by simpa using h) hl'
    simp only [List.set_cons_succ, List.flatten_cons, ih]
    have e1 : (r0 ++ rs.flatten).take ((i + 1) * s) = r0 ++ rs.flatten.take (i * s) := by
      rw [show (i + 1) * s = r0.length + i * s by rw [h1, Nat.add_mul]; omega, List.take_length_add_append]
    have e2 : (r0 ++ rs.flatten).drop ((i + 1 + 1) * s) = rs.flatten.drop ((i + 1) * s) := by
      rw [show (i + 1 + 1) * s = r0.length + (i + 1) * s by rw [h1, Nat.add_mul (i + 1)]; omega, List.drop_length_add_append]
    rw [e1, e2]
    simp

theorem snd_store (h : SimG w0 S0 M σ a w S μ β) (hd : ∀ d, o.dst = some d → d < σ.n) {t : TypeId} {n : Nat} {x y : Operand} {x' y' : Opd} (ho : o.op = .store t x y) (hn : sizeT P t = some n) (hx : compOpd x = some x') (hy : compOpd y = some y')
    {u : Upd} (hu : evStore σ n (val σ x') (val σ y') = some u) (hs : u.side) : Does P o a w (fun v w' => Sim w0 S0 M (σ.apply o.dst u) (a.put o.dst v) w') := by
  have hrelx := opd_sound h hx
  have hrely := opd_sound h hy
  have hrun : ∀ {b off : Nat} {w' : World}, a.eval x = .pointer (some ⟨b, off, none⟩) → (a.eval y).cells.size = n → (storeCells ⟨b, off, none⟩ (a.eval y).cells.toList 0).run P w = .ok () w' → (execOp a.eval o).run P w = .ok .skip w' := by
    intro b off w' hv hsz hst
    simp only [execOp, ho, hv, Instr.storeAt, Instr.sureAddr, Sem.run_bind, Sem.run_pure, Result.andThen_ok, storeVar, run_sizeT hn]
    rw [if_neg (by simp [hsz])]
    simp only [hst, Result.andThen_ok, Sem.run_bind, Sem.run_pure]
  unfold evStore at hu
  split at hu
  · simp at hu
  · next cs hcs =>
    have hcr := cellsOf_sound h hrely hcs
    have hlenc := SVOnes.length hcr
    simp only [Array.length_toList] at hlenc
    split at hu
    · next id off heq =>
      rw [heq] at hrelx
      split at hu
      · next cells hl =>
        split at hu
        · simp at hu
        · next hro =>
          have hro : id ∉ σ.ro := by simpa using hro
          obtain rfl := Option.some.inj hu
          obtain ⟨hcl, hle⟩ : cs.length = n ∧ off + n ≤ cells.length := hs
          obtain ⟨b, vs, e, fr, hb, hm, hv, hh, hf, hr⟩ := box_cells h hl hrelx
          have hlv := SVOnes.length hr
          simp only [Array.length_toList] at hlv
          obtain ⟨w', vs', r1, r2, r3⟩ := run_storeCells P (off := off) (a.eval y).cells.toList 0 vs w hh hf (by simp; omega) (SVOnes.oneCells hcr)
          refine ⟨_, Go.undef, w', hrun hv (by omega) r1, .inr ⟨rfl, rfl⟩, S, μ, β, ?_⟩
          have hkeeps : Keeps S w w' := by
            intro b' off' hS
            have : b' ≠ b := by
              rintro rfl
              exact hro (h.unst id _ b' off' hl hb hS).1
            exact cell_of_heap (r2.other b' this) off'
          have h2 := h.write hl hb r2 hro (.inl ⟨_, _, rfl, rfl⟩) (x' := .box (cells.take off ++ cs ++ cells.drop (off + n))) (by
            refine ⟨b, vs', e, fr, rfl, hm, r2.here, ?_, ?_⟩
            · have : vs'.size = vs.size := by
                have := congrArg List.length r3
                simp only [Array.length_toList, List.length_append, List.length_take, List.length_drop] at this
                omega
              rw [this]; exact hf
            · rw [r3]
              simp only [Nat.add_zero, Array.length_toList]
              rw [show off + (a.eval y).cells.size = off + n by omega]
              exact SVOnes.mono hkeeps (fun _ _ x => x) _ _ (SVOnes.append (SVOnes.append (SVOnes.take off hr) hcr) (SVOnes.drop _ hr)))
          exact h2.putD (sv := .undef) hd trivial
      · simp at hu
    · next id ver i off heq =>
      rw [heq] at hrelx
      split at hu
      · next cv s rows vs fz hl hiv =>
        split at hu
        · simp at hu
        · next hro =>
          simp only [Bool.or_eq_true, List.contains_iff_mem, not_or] at hro
          split at hu
          · next hver =>
            have hver : ver = cv := by simpa using hver
            split at hu
            · next row hrow =>
              obtain rfl := Option.some.inj hu
              obtain ⟨hcl, hle⟩ : cs.length = n ∧ off + n ≤ row.length := hs
              obtain ⟨_, hv0⟩ := hrelx _ _ _ hl
              obtain ⟨b, cap, hm, hv⟩ := hv0 hver
              have hi : i < rows.length := by
                rcases Nat.lt_or_ge i rows.length with hh | hh
                · exact hh
                · simp [List.getElem?_eq_none hh] at hrow
              obtain ⟨us, e, fr, hb, hh, hf, hsz, hle2, hlens, hrep⟩ := arr_block h hl hm (.inl (by intro e; subst e; simp at hi))
              have hrl : row.length = s := hlens row (List.mem_of_getElem? hrow)
              have hroom : (i + 1) * s ≤ rows.length * s := Nat.mul_le_mul_right _ hi
              have hroom2 : rows.length * s ≤ cap * s := Nat.mul_le_mul_right _ hle2
              rw [Nat.add_mul] at hroom
              obtain ⟨w', vs', r1, r2, r3⟩ := run_storeCells P (off := i * s + off) (a.eval y).cells.toList 0 us w hh hf (by simp; omega) (SVOnes.oneCells hcr)
              have h0 := h.freeze fz
              have hiv2 := toIVs1_soundOnes h hiv (fun _ x => x) hcr
              have hvl := RepOnes.length hiv2
              simp only [Array.length_toList] at hvl
              refine ⟨_, Go.undef, w', hrun hv (by omega) r1, .inr ⟨rfl, rfl⟩, Plus S β σ.objs fz, μ, β, ?_⟩
              have hro' : id ∉ fz ++ σ.ro := by
                rw [List.mem_append, not_or]
                exact ⟨hro.2, hro.1⟩
              have hkeeps : Keeps (Plus S β σ.objs fz) w w' := by
                intro b' off' hS
                have : b' ≠ b := by
                  rintro rfl
                  exact hro' (h0.unst id _ b' off' hl hb hS).1
                exact cell_of_heap (r2.other b' this) off'
              have hnl : (row.take off ++ vs ++ row.drop (off + n)).length = s := by
                simp only [List.length_append, List.length_take, List.length_drop]; omega
              have h2 := h0.write hl hb r2 hro' (.inr ⟨cv, s, rows, _, rfl, rfl, by simp⟩) (x' := .arr cv s (rows.set i (row.take off ++ vs ++ row.drop (off + n)))) (by
                have hss : vs'.size = us.size := by
                  have := congrArg List.length r3
                  simp only [Array.length_toList, List.length_append, List.length_take, List.length_drop] at this
                  omega
                refine .inr ⟨b, cap, vs', e, fr, rfl, ?_, r2.here, ?_, ?_, ?_, ?_, ?_⟩
                · rw [List.length_set]; exact hm
                · rw [hss]; exact hf
                · rw [hss]; exact hsz
                · rw [List.length_set]; exact hle2
                · intro r hr
                  rcases List.mem_or_eq_of_mem_set hr with hr | rfl
                  · exact hlens r hr
                  · exact hnl
                · rw [List.length_set, flatten_set hlens hrow hnl, r3]
                  simp only [Nat.add_zero, Array.length_toList]
                  rw [show i * s + off + (a.eval y).cells.size = i * s + (off + n) by omega]
                  have hrow' := flatten_row hlens hrow
                  have p1 := RepOnes.take (i * s) hrep
                  have p2 := RepOnes.drop ((i + 1) * s) hrep
                  have p3 := RepOnes.take s (RepOnes.drop (i * s) hrep)
                  rw [hrow'] at p3
                  have q := RepOnes.append (RepOnes.append (RepOnes.mono (Keeps.refl _ _) (fun _ _ x => .inl x) _ _ p1) (RepOnes.append (RepOnes.append (RepOnes.mono (Keeps.refl _ _) (fun _ _ x => .inl x) _ _ (RepOnes.take off p3)) hiv2) (RepOnes.mono (Keeps.refl _ _) (fun _ _ x => .inl x) _ _ (RepOnes.drop (off + n) p3)))) (RepOnes.mono (Keeps.refl _ _) (fun _ _ x => .inl x) _ _ p2)
                  have q' := RepOnes.mono hkeeps (fun _ _ x => x) _ _ q
                  have huse : us.toList.length = cap * s := by simpa using hsz
                  have e2 := splice_take (A := us.toList) (Y := (a.eval y).cells.toList) (X := i * s) (s := s) (R := rows.length * s) (off := off) (n := n) (by omega) (by omega) (by simp; omega) (by omega)
                  rw [show i * s + s = (i + 1) * s by rw [Nat.add_mul]; omega] at e2
                  rw [e2]
                  exact q')
              exact h2.putD (sv := .undef) hd trivial
            · simp at hu
          · simp at hu
      · simp at hu
    · simp at hu

end
end Go.Vs
