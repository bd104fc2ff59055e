/- Value semantics: clear and copy hold what the evaluator says. No conditions. -/
import Derived.Test.YtjfleklkloohgaaVs11
set_option linter.unusedVariables false
set_option linter.unusedSimpArgs false
namespace Go.Vs

section
variable {P : Program} {w0 w : World} {S0 S : Stab} {M : Ctx} {σ : St} {a : Act} {μ : Nat → Value} {β : Nat → Option Nat} {o : Oper}

theorem RepOnes.repeat {z : List IV} {vs : List Value} (h : RepOnes w S z vs) : ∀ n, RepOnes w S (List.replicate n z).flatten (repeatL vs n)
  | 0 => by simp [repeatL, RepOnes]
  | n + 1 => by
    rw [List.replicate_succ, List.flatten_cons]
    exact RepOnes.append h (RepOnes.repeat h n)

/-- Rows written over, wherever the handle stands. -/
theorem view_write (h : SimG w0 S0 M σ a w S μ β) {id cv s lo hi : Nat} {rows : List (List IV)} (hl : look σ.objs id = some (.arr cv s rows)) (hro : id ∉ σ.ro) {v : Value} (hr : SVRel w S μ σ.objs (.view id cv lo hi) v)
    {rn : List (List IV)} {news : List Value} (hrn : RepOnes w S rn.flatten news) (hln : ∀ r ∈ rn, r.length = s) (hlen : rn.length ≤ hi - lo) (hpos : 0 < s) :
    ∃ ad cap, v = .slice ad (hi - lo) cap ∧ (rn = [] ∨ ∃ b, ad = some ⟨b, lo * s, none⟩ ∧ ∃ w', (storeCells ⟨b, lo * s, none⟩ news 0).run P w = .ok () w' ∧ SimG w0 S0 M { σ with objs := put σ.objs id (.arr cv s (rows.take lo ++ (rn ++ rows.drop (lo + rn.length)))) } a w' S μ β) := by
  obtain ⟨g1, g2, x1, cap, y1, g3, rfl, g5, g6⟩ := (hr _ _ _ hl).2 rfl
  refine ⟨y1, cap - lo, rfl, ?_⟩
  by_cases hne : rn = []
  · exact .inl hne
  · right
    have hpl : 0 < rn.length := List.length_pos_iff.2 hne
    obtain ⟨b, k1, k2⟩ := g6 (by omega)
    refine ⟨b, k2, ?_⟩
    rcases h.objs id _ hl with ⟨z1, _⟩ | ⟨b', cap', us, e, fr, hβ, hmu, hh, hf, hsz, hle, hlens, hrep⟩
    · subst z1; simp at g2; omega
    · rw [hmu, k1] at g3
      simp only [Value.slice.injEq, Option.some.injEq, Addr.mk.injEq, and_true] at g3
      obtain ⟨rfl, _, rfl⟩ := g3
      exact piece_write h hl hro hβ hmu hh hf hsz hle hlens hrep hrn hln (by omega)

theorem snd_clear (h : SimG w0 S0 M σ a w S μ β) (hd : ∀ d, o.dst = some d → d < σ.n) {c : Call} {t e : TypeId} {x : Operand} {x' : Opd} {zero : List SV} (ho : o.op = .call c) (hb : c.callee = .builtin .clear) (h0 : c.argTypes[0]? = some t)
    (hal : c.args.toList = [x]) (ht : P.underlying t = some (.slice e)) (hx : compOpd x = some x') (hzt : zeroT P e = some zero) {u : Upd} (hu : ev σ o.dst (.clear zero x') = some u) (hs : u.side) :
    Does P o a w (fun v w' => Sim w0 S0 M (σ.apply o.dst u) (a.put o.dst v) w') := by
  have hrel := opd_sound h hx
  obtain ⟨consts, hex⟩ := exec_builtin (a := a) ho hb
  have hargs := toList_one hal
  obtain ⟨i, zv, hinf, hz, hzc⟩ := zeroT_some hzt
  have hrun : ∀ {v : Value} {w' : World}, (Builtin.clear_ c.argTypes o.type #[a.eval x]).run P w = .ok v w' → (execOp a.eval o).run P w = .ok (.value v) w' := by
    intro v w' hr
    rw [hex, hargs]
    simp [builtin, hr]
  simp only [ev] at hu
  split at hu
  · simp at hu
  · next z hzz =>
    have hzr : RepOnes w S z zv.cells.toList := by
      have h1 := constSVs_sound (w := w) (S := S) (μ := μ) (objs := σ.objs) hzc
      rw [allVal_spec hzz] at h1
      exact SVOnes.toRep h1
    have hzl := RepOnes.length hzr
    have main : ∀ {id cv s lo hi : Nat} {rows : List (List IV)}, look σ.objs id = some (.arr cv s rows) → id ∉ σ.ro → SVRel w S μ σ.objs (.view id cv lo hi) (a.eval x) → z.length = s ∧ 0 < s →
        Does P o a w (fun v w' => Sim w0 S0 M ⟨putD σ.env o.dst (.val (.tuple [])), put σ.objs id (.arr cv s (rows.take lo ++ (List.replicate (hi - lo) z ++ rows.drop hi))), σ.ro, σ.n, σ.gl⟩ (a.put o.dst v) w') := by
      intro id cv s lo hi rows hl hro hr ⟨hzs, hpos⟩
      obtain ⟨g1, g2, x1, cap, y1, g3, g4, _⟩ := (hr _ _ _ hl).2 rfl
      by_cases hlt : lo < hi
      · obtain ⟨ad, cap', e1, e2⟩ := view_write (P := P) h hl hro hr (rn := List.replicate (hi - lo) z) (RepOnes.repeat hzr (hi - lo)) (fun r hr' => by rw [List.eq_of_mem_replicate hr']; exact hzs) (by simp) hpos
        rcases e2 with e2 | ⟨b, rfl, w', r1, r2⟩
        · simp only [List.replicate_eq_nil_iff] at e2; omega
        · refine ⟨_, .tuple #[], w', hrun ?_, .inl rfl, S, μ, β, ?_⟩
          · have hzc' : (Builtin.zeroCells zv.cells (hi - lo)).toList = repeatL zv.cells.toList (hi - lo) := by
              have hzs' : zv.cells.size = s := by simpa [hzs] using hzl
              have := toList_range_map zv.cells s hzs' hpos (hi - lo)
              unfold Builtin.zeroCells
              rw [← hzs'] at this
              exact this
            have hne : hi - lo ≠ 0 := by omega
            rw [e1]
            obtain ⟨k, hk⟩ : ∃ k, hi - lo = k + 1 := ⟨hi - lo - 1, by omega⟩
            rw [hk] at hzc' r1 ⊢
            simp only [Builtin.clear_, h0, Sem.run_bind, Sem.run_pure, Result.andThen_ok, run_underlying ht, run_zeroValue hinf hz, List.getElem?_toArray, List.getElem?_cons_zero, hzc']
            simp [r1]
          · rw [List.length_replicate, show lo + (hi - lo) = hi by omega] at r2
            exact SimG.putD (σ := { σ with objs := put σ.objs id (.arr cv s (rows.take lo ++ (List.replicate (hi - lo) z ++ rows.drop hi))) }) r2 hd ⟨#[], rfl, rfl⟩
      · have : hi - lo = 0 := by omega
        have e1 : rows.take lo ++ (List.replicate (hi - lo) z ++ rows.drop hi) = rows := by
          rw [this, show hi = lo by omega]; simp
        rw [e1]
        refine ⟨_, .tuple #[], w, hrun ?_, .inl rfl, S, μ, β, ?_⟩
        · rw [g4, this]
          cases y1 <;> simp [Builtin.clear_, h0, run_underlying ht]
        · exact SimG.putD (σ := { σ with objs := put σ.objs id (.arr cv s rows) }) (put_same h hl) hd ⟨#[], rfl, rfl⟩
    split at hu
    · next heq =>
      obtain rfl := Option.some.inj hu
      rw [heq] at hrel
      obtain ⟨x1, hv⟩ := hrel
      refine does_pure0 h hd (v := .tuple #[]) (hrun ?_) ⟨#[], rfl, rfl⟩
      rw [hv]
      cases x1 <;> simp [Builtin.clear_, h0, run_underlying ht]
    · next id ver heq =>
      rw [heq] at hrel
      split at hu
      · next cv s rows hl =>
        split at hu
        · next hc =>
          simp only [Bool.and_eq_true, Bool.not_eq_true', beq_iff_eq] at hc
          obtain ⟨rfl, hro⟩ := hc
          obtain rfl := Option.some.inj hu
          have := main hl (by simpa using hro) (own_view h hl hrel) hs
          simp only [List.take_zero, List.nil_append, Nat.sub_zero, List.drop_length, List.append_nil] at this
          exact this
        · simp at hu
      · simp at hu
    · next id ver lo hi heq =>
      rw [heq] at hrel
      split at hu
      · next cv s rows hl =>
        split at hu
        · next hc =>
          simp only [Bool.and_eq_true, Bool.not_eq_true', beq_iff_eq] at hc
          obtain ⟨rfl, hro⟩ := hc
          obtain rfl := Option.some.inj hu
          exact main hl (by simpa using hro) hrel hs
        · simp at hu
      · simp at hu
    · simp at hu

/-- Where the rows of a slice stand. -/
theorem src_place (h : SimG w0 S0 M σ a w S μ β) {x : SV} {v : Value} {rows : List (List IV)} {rd : List Nat} (hc : rowsOf σ.objs x = some (rows, rd)) (hr : SVRel w S μ σ.objs x v) :
    ∃ ad cap vs, v = .slice ad rows.length cap ∧ RepOnes w S rows.flatten vs ∧ (rows = [] ∨ ∃ b off, ad = some ⟨b, off, none⟩ ∧ ∀ j u, vs[j]? = some u → w.cell? ⟨b, off + j, none⟩ = some u) := by
  have imm : Rep w S (.slice rows) v → ∃ ad cap vs, v = .slice ad rows.length cap ∧ RepOnes w S rows.flatten vs ∧ (rows = [] ∨ ∃ b off, ad = some ⟨b, off, none⟩ ∧ ∀ j u, vs[j]? = some u → w.cell? ⟨b, off + j, none⟩ = some u) := by
    rintro ⟨ad, cap, rfl, _, hc⟩
    by_cases hne : rows = []
    · subst hne
      exact ⟨ad, cap, [], rfl, rfl, .inl rfl⟩
    · obtain ⟨b, off, s', rfl, hrows⟩ := hc hne
      obtain ⟨vs, h1, h2⟩ := RepCells.vals (RepRows.flat hrows)
      exact ⟨_, cap, vs, rfl, h1, .inr ⟨b, off, rfl, h2⟩⟩
  have piece : ∀ {id cv s' lo hi : Nat} {rows' : List (List IV)}, look σ.objs id = some (.arr cv s' rows') → SVRel w S μ σ.objs (.view id cv lo hi) v → rows = (rows'.take hi).drop lo → ∃ ad cap vs, v = .slice ad rows.length cap ∧ RepOnes w S rows.flatten vs ∧ (rows = [] ∨ ∃ b off, ad = some ⟨b, off, none⟩ ∧ ∀ j u, vs[j]? = some u → w.cell? ⟨b, off + j, none⟩ = some u) := by
    intro id cv s lo hi rows' hl hv hrows
    obtain ⟨g1, g2, x1, cap, y1, g3, rfl, g5, g6⟩ := (hv _ _ _ hl).2 rfl
    have hlen : rows.length = hi - lo := by rw [hrows, List.length_drop, List.length_take]; omega
    rcases Nat.lt_or_ge lo hi with hlt | hge
    · obtain ⟨b, k1, k2⟩ := g6 (by omega)
      rcases h.objs id _ hl with ⟨z1, _⟩ | ⟨b', cap', us, e, fr, hβ, z2, hh, hf, hsz, hle, hlens, hrep⟩
      · subst z1; simp at g2; omega
      · rw [z2, k1] at g3
        simp only [Value.slice.injEq, Option.some.injEq, Addr.mk.injEq, and_true] at g3
        obtain ⟨rfl, _, rfl⟩ := g3
        have hsl : ∀ r ∈ rows'.take hi, r.length = s := fun r hr' => hlens r (List.mem_of_mem_take hr')
        have e1 : rows.flatten = (rows'.flatten.take (hi * s)).drop (lo * s) := by rw [hrows, flatten_drop hsl, flatten_take hlens]
        refine ⟨_, _, ((us.toList.take (rows'.length * s)).take (hi * s)).drop (lo * s), by rw [hlen], ?_, .inr ⟨b', lo * s, k2, fun j u hj => ?_⟩⟩
        · rw [e1]; exact RepOnes.drop _ (RepOnes.take _ hrep)
        · rw [List.getElem?_drop, List.getElem?_take] at hj
          split at hj
          · rw [List.getElem?_take] at hj
            split at hj
            · rw [cell_row hh, ← Array.getElem?_toList]; exact hj
            · simp at hj
          · simp at hj
    · have hnil : rows = [] := List.length_eq_zero_iff.1 (by omega)
      subst hnil
      exact ⟨y1, cap - lo, [], by rw [hlen], rfl, .inl rfl⟩
  unfold rowsOf at hc
  split at hc
  · simp only [Option.some.injEq, Prod.mk.injEq] at hc
    obtain ⟨rfl, rfl⟩ := hc
    obtain ⟨x, rfl⟩ := hr
    exact imm ⟨x, 0, rfl, Nat.le_refl _, fun hn => absurd rfl hn⟩
  · simp only [Option.some.injEq, Prod.mk.injEq] at hc
    obtain ⟨rfl, rfl⟩ := hc
    exact imm hr.1
  · simp only [Option.some.injEq, Prod.mk.injEq] at hc
    obtain ⟨rfl, rfl⟩ := hc
    exact imm hr
  · next id ver =>
    split at hc
    · next cv s' rows' hl =>
      split at hc
      · next hv =>
        simp only [Option.some.injEq, Prod.mk.injEq] at hc
        obtain ⟨rfl, rfl⟩ := hc
        obtain rfl : ver = cv := by simpa using hv
        exact piece hl (own_view h hl hr) (by simp)
      · simp at hc
    · simp at hc
  · next id ver lo hi =>
    split at hc
    · next cv s' rows' hl =>
      split at hc
      · next hv =>
        simp only [Option.some.injEq, Prod.mk.injEq] at hc
        obtain ⟨rfl, rfl⟩ := hc
        obtain rfl : ver = cv := by simpa using hv
        exact piece hl hr rfl
      · simp at hc
    · simp at hc
  · simp at hc

theorem snd_copy (h : SimG w0 S0 M σ a w S μ β) (hd : ∀ d, o.dst = some d → d < σ.n) {c : Call} {t e : TypeId} {s : Nat} {x y : Operand} {x' y' : Opd} (ho : o.op = .call c) (hb : c.callee = .builtin .copy) (h0 : c.argTypes[0]? = some t)
    (hal : c.args.toList = [x, y]) (ht : P.underlying t = some (.slice e)) (hx : compOpd x = some x') (hy : compOpd y = some y') (hsz : sizeT P e = some s) {u : Upd} (hu : ev σ o.dst (.copy s x' y') = some u) (hs : u.side) :
    Does P o a w (fun v w' => Sim w0 S0 M (σ.apply o.dst u) (a.put o.dst v) w') := by
  have hrelx := opd_sound h hx
  have hrely := opd_sound h hy
  obtain ⟨consts, hex⟩ := exec_builtin (a := a) ho hb
  have hargs := toList_two hal
  have hrun : ∀ {v : Value} {w' : World}, (Builtin.copy_ c.argTypes o.type #[a.eval x, a.eval y]).run P w = .ok v w' → (execOp a.eval o).run P w = .ok (.value v) w' := by
    intro v w' hr
    rw [hex, hargs]
    simp [builtin, hr]
  simp only [ev] at hu
  split at hu
  · simp at hu
  · next new rd hrows =>
    obtain ⟨ad, cap, vs, hvy, hr1, hr2⟩ := src_place h hrows hrely
    -- the first rows are read
    have first : ∀ n, n ≤ new.length → (∀ r ∈ new, r.length = s) → (Builtin.firstCells s n (.slice ad new.length cap)).run P w = .ok (vs.take (n * s)).toArray w := by
      intro n hn hlens
      have hvl := RepOnes.length hr1
      rw [flatten_length hlens] at hvl
      have hle : n * s ≤ new.length * s := Nat.mul_le_mul_right _ hn
      rcases hr2 with rfl | ⟨b, off, rfl, hcell⟩
      · have : n = 0 := by simpa using hn
        subst this
        cases ad with
        | none => simp [Builtin.firstCells]
        | some b => simp [Builtin.firstCells, loadCells, loadCellsFrom]
      · refine run_firstCells_some (P := P) w s n ⟨b, off, none⟩ new.length cap _ (by rw [List.length_take]; omega) (fun j v hj => ?_)
        rw [add_none]
        rw [List.getElem?_take] at hj
        split at hj
        · exact hcell j v hj
        · simp at hj
    have zero : ∀ {ad0 : Option Addr} {len0 cap0 : Nat}, a.eval x = .slice ad0 len0 cap0 → min new.length len0 = 0 → (Builtin.copy_ c.argTypes o.type #[a.eval x, a.eval y]).run P w = .ok (.int .i64 0) w := by
      intro ad0 len0 cap0 hv hm
      have hf : (Builtin.firstCells s 0 (.slice ad new.length cap)).run P w = .ok #[] w := by
        cases ad with
        | none => simp [Builtin.firstCells]
        | some b => simp [Builtin.firstCells, loadCells, loadCellsFrom]
      have hm' : Nat.min new.length len0 = 0 := hm
      rw [hv, hvy]
      cases ad0 with
      | none => simp [Builtin.copy_, h0, run_underlying ht, Builtin.lenOf, run_sizeT hsz, hm', hf, goInt]
      | some b => simp [Builtin.copy_, h0, run_underlying ht, Builtin.lenOf, run_sizeT hsz, hm', hf, goInt, storeCells]
    have main : ∀ {id cv lo hi : Nat} {rows : List (List IV)}, look σ.objs id = some (.arr cv s rows) → id ∉ σ.ro → SVRel w S μ σ.objs (.view id cv lo hi) (a.eval x) → (∀ r ∈ new, r.length = s) → 0 < s →
        Does P o a w (fun v w' => Sim w0 S0 M ⟨putD σ.env o.dst (.val (.int .i64 (min new.length (hi - lo) : Nat))), put σ.objs id (.arr cv s (rows.take lo ++ (new.take (hi - lo) ++ rows.drop (lo + min new.length (hi - lo))))), σ.ro, σ.n, σ.gl⟩ (a.put o.dst v) w') := by
      intro id cv lo hi rows hl hro hr hlens hpos
      obtain ⟨g1, g2, x1, cap1, y1, g3, g4, _⟩ := (hr _ _ _ hl).2 rfl
      have e1 : new.take (hi - lo) = new.take (min new.length (hi - lo)) := by
        rcases Nat.le_total new.length (hi - lo) with hh | hh
        · rw [Nat.min_eq_left hh, List.take_of_length_le hh, List.take_length]
        · rw [Nat.min_eq_right hh]
      rw [e1]
      have hln : (new.take (min new.length (hi - lo))).length = min new.length (hi - lo) := by rw [List.length_take]; omega
      have hrn : RepOnes w S (new.take (min new.length (hi - lo))).flatten (vs.take (min new.length (hi - lo) * s)) := by
        rw [flatten_take hlens]; exact RepOnes.take _ hr1
      obtain ⟨ad0, cap0, p1, p2⟩ := view_write (P := P) h hl hro hr (rn := new.take (min new.length (hi - lo))) hrn (fun r hr' => hlens r (List.mem_of_mem_take hr')) (by omega) hpos
      rcases p2 with p2 | ⟨b, rfl, w', r1, r2⟩
      · have hz : min new.length (hi - lo) = 0 := by rw [← hln, p2]; rfl
        rw [hz]
        simp only [Nat.add_zero, List.take_zero, List.nil_append, List.take_append_drop]
        exact ⟨_, .int .i64 0, w, hrun (zero p1 hz), .inl rfl, S, μ, β, SimG.putD (σ := { σ with objs := put σ.objs id (.arr cv s rows) }) (put_same h hl) hd rfl⟩
      · rw [hln] at r2
        refine ⟨_, .int .i64 (min new.length (hi - lo) : Nat), w', hrun ?_, .inl rfl, S, μ, β, SimG.putD (σ := { σ with objs := put σ.objs id (.arr cv s (rows.take lo ++ (new.take (min new.length (hi - lo)) ++ rows.drop (lo + min new.length (hi - lo))))) }) r2 hd rfl⟩
        rw [p1, hvy]
        have hf := first (min new.length (hi - lo)) (Nat.min_le_left _ _) hlens
        have hmin : Nat.min new.length (hi - lo) = min new.length (hi - lo) := rfl
        simp [Builtin.copy_, h0, run_underlying ht, Builtin.lenOf, run_sizeT hsz, hmin, hf, goInt, r1]
    split at hu
    · next heq =>
      obtain rfl := Option.some.inj hu
      rw [heq] at hrelx
      obtain ⟨x1, hv⟩ := hrelx
      exact does_pure0 h hd (v := .int .i64 0) (hrun (zero hv (by simp))) rfl
    · next id ver heq =>
      rw [heq] at hrelx
      split at hu
      · next cv s' rows hl =>
        split at hu
        · next hc =>
          simp only [Bool.and_eq_true, Bool.not_eq_true', beq_iff_eq] at hc
          obtain ⟨rfl, hro⟩ := hc
          obtain rfl := Option.some.inj hu
          obtain ⟨rfl, hlens, hpos⟩ : s' = s ∧ (∀ r ∈ new, r.length = s) ∧ 0 < s := hs
          have := main hl (by simpa using hro) (own_view h hl hrelx) hlens hpos
          simp only [List.take_zero, List.nil_append, Nat.sub_zero, Nat.zero_add] at this
          exact this
        · simp at hu
      · simp at hu
    · next id ver lo hi heq =>
      rw [heq] at hrelx
      split at hu
      · next cv s' rows hl =>
        split at hu
        · next hc =>
          simp only [Bool.and_eq_true, Bool.not_eq_true', beq_iff_eq] at hc
          obtain ⟨rfl, hro⟩ := hc
          obtain rfl := Option.some.inj hu
          obtain ⟨rfl, hlens, hpos⟩ : s' = s ∧ (∀ r ∈ new, r.length = s) ∧ 0 < s := hs
          exact main hl (by simpa using hro) hrelx hlens hpos
        · simp at hu
      · simp at hu
    · simp at hu
end
end Go.Vs
