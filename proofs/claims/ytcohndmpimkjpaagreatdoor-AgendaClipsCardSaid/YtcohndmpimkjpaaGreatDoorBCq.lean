/- Value semantics, part 11: appends hold what the evaluator says. No conditions. -/
import Derived.Test.YtcohndmpimkjpaaGreatDoorBBq
import Derived.Laws.RangeString
import Derived.Laws.BytesArg
import Derived.LaidEql
import Derived.Lib.AppendStr
import Derived.MapKept
set_option linter.unusedVariables false
set_option linter.unusedSimpArgs false
set_option linter.unusedVariables false
set_option linter.unusedSimpArgs false
namespace Go.Vs

section
variable {P : Program} {w0 w : World} {S0 S : Stab} {M : Ctx} {σ : St} {a : Act} {μ : Nat → Value} {β : Nat → Option Nat} {o : Oper}

theorem append_grow' {ats : Array TypeId} {t t' e e' ty : TypeId} {i : TypeInfo} {z : Value} (h0 : ats[0]? = some t) (h1 : ats[1]? = some t') (ht : P.underlying t = some (.slice e)) (ht' : P.underlying t' = some (.slice e') ∨ P.underlying t' = some .string) (hi : P.info? e = some i) (hz : i.zero = some z)
    {base : Option Addr} {sLen sCap m : Nat} {vy : Value} {olds news : Array Value} (hlen : (Builtin.lenOf vy).run P w = .ok m w) (ho : (Builtin.firstCells i.size sLen (.slice base sLen sCap)).run P w.drew = .ok olds w.drew) (hn : (Builtin.firstCells i.size m vy).run P w.drew = .ok news w.drew)
    (hg : sCap < sLen + m) (h63 : sLen + m ≤ 9223372036854775807) (hfit : (sLen + m) * i.bytes ≤ 140737488355328) :
    (Builtin.append_ ats ty #[.slice base sLen sCap, vy]).run P w =
      .ok (.slice (some ⟨w.heap.size, 0, none⟩) (sLen + m) (grownCap w (sLen + m) sCap e)) (w.drew.alloc (.cells (olds ++ news ++ Builtin.zeroCells z.cells (grownCap w (sLen + m) sCap e - (sLen + m))) e)) := by
  have hf := growslice_fits hg hfit
  have hn1 : ¬ (sLen + m ≤ sCap) := by omega
  have h63' : ¬ (9223372036854775807 < ((sLen : Int) + (m : Int))) := by omega
  have h48' : ¬ (281474976710656 < Builtin.nextslicecap (sLen + m) sCap * i.bytes) := by omega
  rcases ht' with ht' | ht' <;> simp [Builtin.append_, h0, h1, run_underlying ht, run_underlying ht', sizeOf, typeInfo, zeroValue, hi, hz, hlen, hn1, h63', h48', Question.forced, ho, hn, newRow, grownCap]

theorem append_room' {ats : Array TypeId} {t t' e e' ty : TypeId} {i : TypeInfo} (h0 : ats[0]? = some t) (h1 : ats[1]? = some t') (ht : P.underlying t = some (.slice e)) (ht' : P.underlying t' = some (.slice e') ∨ P.underlying t' = some .string) (hi : P.info? e = some i)
    {b : Nat} {sLen sCap m : Nat} {vy : Value} {news : Array Value} (hlen : (Builtin.lenOf vy).run P w = .ok m w) (hn : (Builtin.firstCells i.size m vy).run P w = .ok news w)
    (hg : sLen + m ≤ sCap) {w' : World} (hst : (storeCells ⟨b, sLen * i.size, none⟩ news.toList 0).run P w = .ok () w') :
    (Builtin.append_ ats ty #[.slice (some ⟨b, 0, none⟩) sLen sCap, vy]).run P w = .ok (.slice (some ⟨b, 0, none⟩) (sLen + m) sCap) w' := by
  rcases ht' with ht' | ht' <;> simp [Builtin.append_, h0, h1, run_underlying ht, run_underlying ht', sizeOf, typeInfo, hi, hlen, hg, hn, add_none, hst]

theorem append_none' {ats : Array TypeId} {t t' e e' ty : TypeId} {i : TypeInfo} (h0 : ats[0]? = some t) (h1 : ats[1]? = some t') (ht : P.underlying t = some (.slice e)) (ht' : P.underlying t' = some (.slice e') ∨ P.underlying t' = some .string) (hi : P.info? e = some i)
    {base : Option Addr} {vy : Value} (hlen : (Builtin.lenOf vy).run P w = .ok 0 w) (hn : (Builtin.firstCells i.size 0 vy).run P w = .ok #[] w) : (Builtin.append_ ats ty #[.slice base 0 0, vy]).run P w = .ok (.slice base 0 0) w := by
  rcases ht' with ht' | ht' <;> cases base with
  | none => simp [Builtin.append_, h0, h1, run_underlying ht, run_underlying ht', sizeOf, typeInfo, hi, hlen, hn]
  | some b => simp [Builtin.append_, h0, h1, run_underlying ht, run_underlying ht', sizeOf, typeInfo, hi, hlen, hn, storeCells]

theorem append_grow {ats : Array TypeId} {t t' e e' ty : TypeId} {i : TypeInfo} {z : Value} (h0 : ats[0]? = some t) (h1 : ats[1]? = some t') (ht : P.underlying t = some (.slice e)) (ht' : P.underlying t' = some (.slice e')) (hi : P.info? e = some i) (hz : i.zero = some z)
    {base ad : Option Addr} {sLen sCap m c : Nat} {olds news : Array Value} (ho : (Builtin.firstCells i.size sLen (.slice base sLen sCap)).run P w.drew = .ok olds w.drew) (hn : (Builtin.firstCells i.size m (.slice ad m c)).run P w.drew = .ok news w.drew)
    (hg : sCap < sLen + m) (h63 : sLen + m ≤ 9223372036854775807) (hfit : (sLen + m) * i.bytes ≤ 140737488355328) :
    (Builtin.append_ ats ty #[.slice base sLen sCap, .slice ad m c]).run P w =
      .ok (.slice (some ⟨w.heap.size, 0, none⟩) (sLen + m) (grownCap w (sLen + m) sCap e)) (w.drew.alloc (.cells (olds ++ news ++ Builtin.zeroCells z.cells (grownCap w (sLen + m) sCap e - (sLen + m))) e)) := by
  have hf := growslice_fits hg hfit
  have hn1 : ¬ (sLen + m ≤ sCap) := by omega
  have h63' : ¬ (9223372036854775807 < ((sLen : Int) + (m : Int))) := by omega
  have h48' : ¬ (281474976710656 < Builtin.nextslicecap (sLen + m) sCap * i.bytes) := by omega
  simp [Builtin.append_, h0, h1, run_underlying ht, run_underlying ht', sizeOf, typeInfo, zeroValue, hi, hz, Builtin.lenOf, hn1, h63', h48', Question.forced, ho, hn, newRow, grownCap]

theorem append_room {ats : Array TypeId} {t t' e e' ty : TypeId} {i : TypeInfo} (h0 : ats[0]? = some t) (h1 : ats[1]? = some t') (ht : P.underlying t = some (.slice e)) (ht' : P.underlying t' = some (.slice e')) (hi : P.info? e = some i)
    {b : Nat} {ad : Option Addr} {sLen sCap m c : Nat} {news : Array Value} (hn : (Builtin.firstCells i.size m (.slice ad m c)).run P w = .ok news w)
    (hg : sLen + m ≤ sCap) {w' : World} (hst : (storeCells ⟨b, sLen * i.size, none⟩ news.toList 0).run P w = .ok () w') :
    (Builtin.append_ ats ty #[.slice (some ⟨b, 0, none⟩) sLen sCap, .slice ad m c]).run P w = .ok (.slice (some ⟨b, 0, none⟩) (sLen + m) sCap) w' := by
  simp [Builtin.append_, h0, h1, run_underlying ht, run_underlying ht', sizeOf, typeInfo, hi, Builtin.lenOf, hg, hn, add_none, hst]

theorem append_none {ats : Array TypeId} {t t' e e' ty : TypeId} {i : TypeInfo} (h0 : ats[0]? = some t) (h1 : ats[1]? = some t') (ht : P.underlying t = some (.slice e)) (ht' : P.underlying t' = some (.slice e')) (hi : P.info? e = some i)
    {base ad : Option Addr} {c : Nat} : (Builtin.append_ ats ty #[.slice base 0 0, .slice ad 0 c]).run P w = .ok (.slice base 0 0) w := by
  have hn : (Builtin.firstCells i.size 0 (.slice ad 0 c)).run P w = .ok #[] w := by
    cases ad with
    | none => simp [Builtin.firstCells]
    | some b => simp [Builtin.firstCells, loadCells, loadCellsFrom]
  cases base with
  | none => simp [Builtin.append_, h0, h1, run_underlying ht, run_underlying ht', sizeOf, typeInfo, hi, Builtin.lenOf, hn]
  | some b => simp [Builtin.append_, h0, h1, run_underlying ht, run_underlying ht', sizeOf, typeInfo, hi, Builtin.lenOf, hn, storeCells]

/-- The cells of what is read of a slice. -/
theorem first_cells {S : Stab} {rows : List (List IV)} {ad : Option Addr} {cap s : Nat} (hr : Rep w S (.slice rows) (.slice ad rows.length cap)) (hl : ∀ r ∈ rows, r.length = s) :
    ∃ vs, RepOnes w S rows.flatten vs ∧ ∀ w' : World, (∀ b o, S b o → w'.cell? ⟨b, o, none⟩ = w.cell? ⟨b, o, none⟩) → (Builtin.firstCells s rows.length (.slice ad rows.length cap)).run P w' = .ok vs.toArray w' := by
  obtain ⟨ad', cap', hv, hle, hc⟩ := hr
  simp only [Value.slice.injEq] at hv
  obtain ⟨rfl, _, rfl⟩ := hv
  by_cases hne : rows = []
  · subst hne
    refine ⟨[], rfl, fun w' _ => ?_⟩
    cases ad with
    | none => simp [Builtin.firstCells]
    | some b => simp [Builtin.firstCells, loadCells, loadCellsFrom]
  · obtain ⟨b, off, s', rfl, hrows⟩ := hc hne
    have hss : s' = s := by
      obtain ⟨row, hrow⟩ := List.exists_mem_of_ne_nil rows hne
      exact (RepRows.lens hrows row hrow).symm.trans (hl row hrow)
    subst hss
    have hcells := RepRows.flat hrows
    obtain ⟨vs, h1, h2⟩ := RepCells.vals hcells
    refine ⟨vs, h1, fun w' hk => ?_⟩
    refine run_firstCells_some (P := P) w' s' rows.length ⟨b, off, none⟩ rows.length cap vs ?_ ?_
    · rw [RepOnes.length h1, flatten_length hl]
    · intro j v hj
      rw [add_none]
      have hlt : j < rows.flatten.length := by
        have := RepOnes.length h1
        rcases Nat.lt_or_ge j rows.flatten.length with hh | hh
        · exact hh
        · rw [List.getElem?_eq_none (by omega)] at hj
          simp at hj
      have hS : S b (off + j) := by
        have hsub : ∀ (xs : List IV) (o : Nat), RepCells w S xs b o → ∀ j, j < xs.length → S b (o + j) := by
          intro xs
          induction xs with
          | nil => intro o _ j hj; simp at hj
          | cons x xs ih =>
            intro o ⟨k1, _, _, k4⟩ j hj
            cases j with
            | zero => exact k1
            | succ j => have := ih (o + 1) k4 j (by simpa using hj); rwa [show o + 1 + j = o + (j + 1) by omega] at this
        exact hsub _ _ hcells j hlt
      rw [hk b (off + j) hS]
      exact h2 j v hj

theorem flatten_take {α : Type} {s : Nat} : ∀ {rows : List (List α)} {k : Nat}, (∀ r ∈ rows, r.length = s) → (rows.take k).flatten = rows.flatten.take (k * s)
  | [], _, _ => by simp
  | r :: rs, 0, _ => by simp
  | r :: rs, k + 1, h => by
    have h1 : r.length = s := h r (by simp)
    rw [List.take_succ_cons, List.flatten_cons, List.flatten_cons, flatten_take (fun x hx => h x (List.mem_cons_of_mem _ hx)), Nat.add_mul, Nat.one_mul, Nat.add_comm, ← h1, List.take_length_add_append]
theorem flatten_drop {α : Type} {s : Nat} : ∀ {rows : List (List α)} {k : Nat}, (∀ r ∈ rows, r.length = s) → (rows.drop k).flatten = rows.flatten.drop (k * s)
  | [], _, _ => by simp
  | r :: rs, 0, _ => by simp
  | r :: rs, k + 1, h => by
    have h1 : r.length = s := h r (by simp)
    rw [List.drop_succ_cons, List.flatten_cons, flatten_drop (fun x hx => h x (List.mem_cons_of_mem _ hx)), Nat.add_mul, Nat.one_mul, Nat.add_comm, ← h1, List.drop_length_add_append]

/-- The cells that a slice's rows stand in, nothing frozen. -/
theorem view_cells (h : SimG w0 S0 M σ a w S μ β) {id cv s lo hi : Nat} {rows : List (List IV)} (hl : look σ.objs id = some (.arr cv s rows)) {v : Value} (hr : SVRel w S μ σ.objs (.view id cv lo hi) v) :
    ∃ ad cap vs, v = .slice ad (hi - lo) cap ∧ RepOnes w S ((rows.take hi).drop lo).flatten vs ∧ ∀ w' : World, w'.heap = w.heap → (Builtin.firstCells s (hi - lo) (.slice ad (hi - lo) cap)).run P w' = .ok vs.toArray w' := by
  obtain ⟨g1, g2, x1, cap, y1, g3, rfl, g5, g6⟩ := (hr _ _ _ hl).2 rfl
  rcases Nat.lt_or_ge lo hi with hlt | hge
  · obtain ⟨b, k1, k2⟩ := g6 (by omega)
    rcases h.objs id _ hl with ⟨z1, _⟩ | ⟨b', cap', us, e, fr, hβ, z2, hh, hf, hsz, hle, hlens, hrep⟩
    · subst z1; simp at g2; omega
    · rw [z2, k1] at g3
      simp only [Value.slice.injEq, Option.some.injEq, Addr.mk.injEq, and_true] at g3
      obtain ⟨rfl, _, rfl⟩ := g3
      have hfl := flatten_length hlens
      have hsl : ∀ r ∈ rows.take hi, r.length = s := fun r hr' => hlens r (List.mem_of_mem_take hr')
      have e1 : ((rows.take hi).drop lo).flatten = (rows.flatten.take (hi * s)).drop (lo * s) := by rw [flatten_drop hsl, flatten_take hlens]
      have hmul : hi * s ≤ rows.length * s := Nat.mul_le_mul_right _ g2
      have hmul' : lo * s ≤ hi * s := Nat.mul_le_mul_right _ g1
      have hcap : rows.length * s ≤ us.size := by rw [hsz]; exact Nat.mul_le_mul_right _ hle
      refine ⟨_, _, ((us.toList.take (rows.length * s)).take (hi * s)).drop (lo * s), rfl, ?_, fun w' hw => ?_⟩
      · rw [e1]; exact RepOnes.drop _ (RepOnes.take _ hrep)
      · rw [k2]
        refine run_firstCells_some (P := P) w' s (hi - lo) ⟨b', lo * s, none⟩ (hi - lo) (cap' - lo) _ ?_ ?_
        · rw [List.length_drop, List.length_take, List.length_take, Nat.sub_mul]; simp; omega
        · intro j v hj
          rw [add_none]
          rw [List.getElem?_drop, List.getElem?_take] at hj
          split at hj
          · rw [List.getElem?_take] at hj
            split at hj
            · have : w'.cell? ⟨b', lo * s + j, none⟩ = w.cell? ⟨b', lo * s + j, none⟩ := World.cell?_of_block (by rw [hw])
              rw [this, cell_row hh, ← Array.getElem?_toList]
              exact hj
            · simp at hj
          · simp at hj
  · have hz : hi - lo = 0 := by omega
    have hnil : (rows.take hi).drop lo = [] := by
      apply List.length_eq_zero_iff.1
      rw [List.length_drop, List.length_take]; omega
    refine ⟨y1, cap - lo, [], rfl, by rw [hnil]; rfl, fun w' _ => ?_⟩
    rw [hz]
    cases y1 with
    | none => simp [Builtin.firstCells]
    | some b => simp [Builtin.firstCells, loadCells, loadCellsFrom]

theorem src_links (h : SimG w0 S0 M σ a w S μ β) {x : SV} {v : Value} {rows : List (List IV)} {rd : List Nat} (hc : rowsOf σ.objs x = some (rows, rd)) (hr : SVRel w S μ σ.objs x v) {s : Nat} (hs : ∀ r ∈ rows, r.length = s) :
    ∃ ad cap vs, v = .slice ad rows.length cap ∧ RepOnes w S rows.flatten vs ∧ (∀ w' : World, w'.heap = w.heap → (Builtin.firstCells s rows.length (.slice ad rows.length cap)).run P w' = .ok vs.toArray w') ∧ LnRel w S μ σ.objs s rows.length vs (lnOf σ.objs x) := by
  have imm : Rep w S (.slice rows) v → ∃ ad cap vs, v = .slice ad rows.length cap ∧ RepOnes w S rows.flatten vs ∧ ∀ w' : World, w'.heap = w.heap → (Builtin.firstCells s rows.length (.slice ad rows.length cap)).run P w' = .ok vs.toArray w' := by
    intro hrep
    obtain ⟨ad, cap, hv, _, _⟩ := id hrep
    rw [hv] at hrep
    obtain ⟨vs, h1, h2⟩ := first_cells (P := P) hrep hs
    exact ⟨ad, cap, vs, hv, h1, fun w' hw => h2 w' (fun b o _ => World.cell?_of_block (by rw [hw]))⟩
  have stride : ∀ {id cv s' lo hi : Nat} {rows' : List (List IV)}, look σ.objs id = some (.arr cv s' rows') → SVRel w S μ σ.objs (.view id cv lo hi) v → rows = (rows'.take hi).drop lo → ∃ ad cap vs, v = .slice ad rows.length cap ∧ RepOnes w S rows.flatten vs ∧ ∀ w' : World, w'.heap = w.heap → (Builtin.firstCells s rows.length (.slice ad rows.length cap)).run P w' = .ok vs.toArray w' := by
    intro id cv s' lo hi rows' hl hv hrows
    obtain ⟨ad, cap, vs, e1, e2, e3⟩ := view_cells (P := P) h hl hv
    obtain ⟨g1, g2, _⟩ := (hv _ _ _ hl).2 rfl
    have hlen : rows.length = hi - lo := by rw [hrows, List.length_drop, List.length_take]; omega
    rw [← hrows] at e2
    by_cases hne : rows = []
    · subst hne
      have hz : hi - lo = 0 := by simpa using hlen.symm
      refine ⟨ad, cap, [], by rw [e1, hz]; rfl, rfl, fun w' _ => ?_⟩
      cases ad with
      | none => simp [Builtin.firstCells]
      | some b => simp [Builtin.firstCells, loadCells, loadCellsFrom]
    · obtain ⟨row, hrow⟩ := List.exists_mem_of_ne_nil rows hne
      have hss : s' = s := by
        have hm : row ∈ rows' := by rw [hrows] at hrow; exact List.mem_of_mem_take (List.mem_of_mem_drop hrow)
        rcases h.objs id _ hl with ⟨z1, _⟩ | ⟨_, _, _, _, _, _, _, _, _, _, _, hlens, _⟩
        · subst z1; simp at hm
        · rw [← hlens row hm, hs row hrow]
      subst hss
      rw [← hlen] at e1 e3
      exact ⟨ad, cap, vs, e1, e2, e3⟩
  have noln : (∃ ad cap vs, v = .slice ad rows.length cap ∧ RepOnes w S rows.flatten vs ∧ ∀ w' : World, w'.heap = w.heap → (Builtin.firstCells s rows.length (.slice ad rows.length cap)).run P w' = .ok vs.toArray w') → lnOf σ.objs x = [] →
      ∃ ad cap vs, v = .slice ad rows.length cap ∧ RepOnes w S rows.flatten vs ∧ (∀ w' : World, w'.heap = w.heap → (Builtin.firstCells s rows.length (.slice ad rows.length cap)).run P w' = .ok vs.toArray w') ∧ LnRel w S μ σ.objs s rows.length vs (lnOf σ.objs x) := by
    rintro ⟨ad, cap, vs, q1, q2, q3⟩ hn
    exact ⟨ad, cap, vs, q1, q2, q3, by rw [hn]; trivial⟩
  unfold rowsOf at hc
  split at hc
  · simp only [Option.some.injEq, Prod.mk.injEq] at hc
    obtain ⟨rfl, rfl⟩ := hc
    obtain ⟨x, rfl⟩ := hr
    exact noln (imm ⟨x, 0, rfl, Nat.le_refl _, fun hn => absurd rfl hn⟩) rfl
  · simp only [Option.some.injEq, Prod.mk.injEq] at hc
    obtain ⟨rfl, rfl⟩ := hc
    exact noln (imm hr.1) rfl
  · simp only [Option.some.injEq, Prod.mk.injEq] at hc
    obtain ⟨rfl, rfl⟩ := hc
    obtain ⟨x, rfl⟩ := hr
    exact noln (imm ⟨x, 0, rfl, Nat.le_refl _, fun hn => absurd rfl hn⟩) rfl
  · next id ver =>
    split at hc
    · next cv s' rows' ln hl =>
      split at hc
      · next hv =>
        simp only [Option.some.injEq, Prod.mk.injEq] at hc
        obtain ⟨rfl, rfl⟩ := hc
        have hv : ver = cv := by simpa using hv
        have hvx := (hr _ _ _ _ hl).2 hv
        have hlo : lnOf σ.objs (.town id ver) = ln := by simp only [lnOf, hl]
        rw [hlo]
        rcases h.objs id _ hl with ⟨rfl, rfl, _, x, hx⟩ | ⟨b, cap, us, e, fr, hb, hm, hh, hf, hsz, hle, hlens, hrep, hln⟩
        · rw [hx] at hvx
          obtain ⟨ad, cap, vs, q1, q2, q3⟩ := imm ⟨x, 0, hvx, Nat.le_refl _, fun hn => absurd rfl hn⟩
          exact ⟨ad, cap, vs, q1, q2, q3, trivial⟩
        have hcap : rows'.length * s' ≤ us.toList.length := by
          have : rows'.length * s' ≤ cap * s' := Nat.mul_le_mul_right _ hle
          simp; omega
        have hfl := flatten_length hlens
        refine ⟨_, cap, us.toList.take (rows'.length * s'), by rw [hvx, hm], hrep, fun w' hw => ?_, ?_⟩
        · by_cases hne : rows' = []
          · subst hne
            simp [Builtin.firstCells, loadCells, loadCellsFrom]
          · obtain ⟨row, hrow⟩ := List.exists_mem_of_ne_nil rows' hne
            have hss : s' = s := by rw [← hlens row hrow, hs row hrow]
            subst hss
            refine run_firstCells_some (P := P) w' s' rows'.length ⟨b, 0, none⟩ rows'.length cap _ ?_ ?_
            · rw [List.length_take]; omega
            · intro j v hj
              rw [add_none]
              rw [List.getElem?_take] at hj
              split at hj
              · have : w'.cell? ⟨b, 0 + j, none⟩ = w.cell? ⟨b, 0 + j, none⟩ := World.cell?_of_block (by rw [hw])
                rw [this, cell_row hh, Nat.zero_add, ← Array.getElem?_toList]
                exact hj
              · simp at hj
        · cases ln with
          | nil => trivial
          | cons p r =>
            have hne : rows' ≠ [] := by
              intro e
              have := hln.1.1
              rw [e] at this
              exact Nat.not_lt_zero _ this
            obtain ⟨row, hrow⟩ := List.exists_mem_of_ne_nil rows' hne
            have hss : s' = s := by rw [← hlens row hrow, hs row hrow]
            subst hss
            refine LnRel.vals (Nat.le_refl _) (fun i j hi hj => ?_) hln
            have : (i + 1) * s' ≤ rows'.length * s' := Nat.mul_le_mul_right _ hi
            rw [Nat.add_mul] at this
            rw [List.getElem?_take, if_pos (by omega)]
      · simp at hc
    · simp at hc
  · simp only [Option.some.injEq, Prod.mk.injEq] at hc
    obtain ⟨rfl, rfl⟩ := hc
    exact noln (imm hr) rfl
  · next id ver =>
    split at hc
    · next cv s' rows' hl =>
      split at hc
      · next hv =>
        simp only [Option.some.injEq, Prod.mk.injEq] at hc
        obtain ⟨rfl, rfl⟩ := hc
        obtain rfl : ver = cv := by simpa using hv
        exact noln (stride hl (own_view h hl hr) (by simp)) rfl
      · simp at hc
    · simp at hc
  · next id ver lo hi =>
    split at hc
    · next cv s' rows' hl =>
      split at hc
      · next hv =>
        simp only [Option.some.injEq, Prod.mk.injEq] at hc
        obtain ⟨rfl, rfl⟩ := hc
        obtain rfl : ver = cv := by simpa using hv
        exact noln (stride hl hr rfl) rfl
      · simp at hc
    · simp at hc
  · simp at hc

theorem src_cells (h : SimG w0 S0 M σ a w S μ β) {x : SV} {v : Value} {rows : List (List IV)} {rd : List Nat} (hc : rowsOf σ.objs x = some (rows, rd)) (hr : SVRel w S μ σ.objs x v) {s : Nat} (hs : ∀ r ∈ rows, r.length = s) :
    ∃ ad cap vs, v = .slice ad rows.length cap ∧ RepOnes w S rows.flatten vs ∧ ∀ w' : World, w'.heap = w.heap → (Builtin.firstCells s rows.length (.slice ad rows.length cap)).run P w' = .ok vs.toArray w' := by
  obtain ⟨ad, cap, vs, q1, q2, q3, _⟩ := src_links (P := P) h hc hr hs
  exact ⟨ad, cap, vs, q1, q2, q3⟩

theorem kept_drew_alloc (w : World) (x : Go.Obj) : Kept (fun _ => False) w (w.drew.alloc x) :=
  ⟨rfl, rfl, rfl, by simp, fun _ hk _ => heap_alloc_lt (w := w.drew) hk, fun k x hx => (shape_of_heap (w := w) (heap_alloc_lt (w := w.drew) (shape_lt hx))).trans hx⟩

theorem grownCap_ge' (need old : Nat) (e : TypeId) : need ≤ grownCap w need old e := grownCap_ge w need old e

/-- A grown row, as an object. -/
theorem grown_ob {S : Stab} {olds news : List Value} {ro rn : List (List IV)} {e : TypeId} {s : Nat} {z : Value} {ver cap : Nat} {μ : Nat → Value} {objs : List (Nat × Ob)} {w' : World} (hz : z.cells.size = s)
    (h1 : RepOnes w' S ro.flatten olds) (h2 : RepOnes w' S rn.flatten news) (hl1 : ∀ r ∈ ro, r.length = s) (hl2 : ∀ r ∈ rn, r.length = s) (hc : ro.length + rn.length ≤ cap) {b : Nat}
    (hh : w'.heap[b]? = some (.cells (olds.toArray ++ news.toArray ++ Builtin.zeroCells z.cells (cap - (ro.length + rn.length))) e)) :
    ObRel w' S μ objs (some b) (.slice (some ⟨b, 0, none⟩) (ro.length + rn.length) cap) (.arr ver s (ro ++ rn)) := by
  have e1 := RepOnes.length h1
  have e2 := RepOnes.length h2
  rw [flatten_length hl1] at e1
  rw [flatten_length hl2] at e2
  refine .inr ⟨b, cap, _, e, (0, 0), rfl, by rw [List.length_append], hh, NoFrz.zero _, ?_, by rw [List.length_append]; exact hc, ?_, ?_⟩
  · simp only [Array.size_append, List.size_toArray, size_zeroCells, hz, e1, e2]
    rw [← Nat.add_mul, ← Nat.add_mul]
    congr 1; omega
  · intro r hr
    rcases List.mem_append.1 hr with h | h
    · exact hl1 r h
    · exact hl2 r h
  · rw [List.flatten_append]
    have : (olds.toArray ++ news.toArray ++ Builtin.zeroCells z.cells (cap - (ro.length + rn.length))).toList.take ((ro ++ rn).length * s) = olds ++ news := by
      rw [List.length_append, Nat.add_mul, ← e1, ← e2]
      simp only [Array.toList_append]
      rw [List.append_assoc, List.take_length_add_append, List.take_left']
      rfl
    rw [this]
    exact RepOnes.append h1 h2

theorem lnShift_rel {w : World} {S : Stab} {μ : Nat → Value} {objs : List (Nat × Ob)} {s n0 n n' : Nat} {vs vs' : List Value} (hn : n0 + n ≤ n') (hv : ∀ i j, i < n → j < s → vs'[(n0 + i) * s + j]? = vs[i * s + j]?) : ∀ {l : List (Nat × Nat × SV)}, LnRel w S μ objs s n vs l → LnRel w S μ objs s n' vs' (lnShift n0 l)
  | [], _ => trivial
  | _ :: _, ⟨⟨h1, h2, v, h3, h4⟩, h5⟩ => ⟨⟨by show n0 + _ < n'; omega, h2, v, (hv _ _ h1 h2).trans h3, h4⟩, lnShift_rel hn hv h5⟩
/-- Cells of rows that are put behind others. -/
theorem grown_ln {w : World} {S : Stab} {μ : Nat → Value} {objs : List (Nat × Ob)} {s n m : Nat} {us news tl : List Value} {ln ln2 : List (Nat × Nat × SV)} (hu : us.length = n * s) (hn : news.length = m * s)
    (h1 : LnRel w S μ objs s n us ln) (h2 : LnRel w S μ objs s m news ln2) : LnRel w S μ objs s (n + m) (us ++ news ++ tl) (ln ++ lnShift n ln2) := by
  refine LnRel.append (LnRel.vals (Nat.le_add_right _ _) (fun i j hi hj => ?_) h1) (lnShift_rel (Nat.le_refl _) (fun i j hi hj => ?_) h2)
  · have := Nat.mul_le_mul_right s (show i + 1 ≤ n from hi)
    rw [Nat.add_mul] at this
    rw [List.append_assoc, List.getElem?_append_left (by omega)]
  · have := Nat.mul_le_mul_right s (show i + 1 ≤ m from hi)
    rw [Nat.add_mul] at this
    have e : (n + i) * s + j = us.length + (i * s + j) := by rw [Nat.add_mul, hu]; omega
    rw [e, List.append_assoc, List.getElem?_append_right (by omega), Nat.add_sub_cancel_left, List.getElem?_append_left (by omega)]
theorem lnShift_zero : ∀ l : List (Nat × Nat × SV), lnShift 0 l = l
  | [] => rfl
  | p :: r => by simp [lnShift, lnShift_zero r]
/-- A grown row, as a table. -/
theorem grown_tab {S : Stab} {olds news : List Value} {ro rn : List (List IV)} {e : TypeId} {s : Nat} {z : Value} {ver cap : Nat} {μ : Nat → Value} {objs : List (Nat × Ob)} {w' : World} {ln ln2 : List (Nat × Nat × SV)} (hz : z.cells.size = s)
    (h1 : RepOnes w' S ro.flatten olds) (h2 : RepOnes w' S rn.flatten news) (hl1 : ∀ r ∈ ro, r.length = s) (hl2 : ∀ r ∈ rn, r.length = s) (hc : ro.length + rn.length ≤ cap) {b : Nat}
    (hh : w'.heap[b]? = some (.cells (olds.toArray ++ news.toArray ++ Builtin.zeroCells z.cells (cap - (ro.length + rn.length))) e)) (hk1 : LnRel w' S μ objs s ro.length olds ln) (hk2 : LnRel w' S μ objs s rn.length news ln2) :
    ObRel w' S μ objs (some b) (.slice (some ⟨b, 0, none⟩) (ro.length + rn.length) cap) (.tab ver s (ro ++ rn) (ln ++ lnShift ro.length ln2)) := by
  have e1 := RepOnes.length h1
  have e2 := RepOnes.length h2
  rw [flatten_length hl1] at e1
  rw [flatten_length hl2] at e2
  refine .inr ⟨b, cap, _, e, (0, 0), rfl, by rw [List.length_append], hh, NoFrz.zero _, ?_, by rw [List.length_append]; exact hc, ?_, ?_, ?_⟩
  · simp only [Array.size_append, List.size_toArray, size_zeroCells, hz, e1, e2]
    rw [← Nat.add_mul, ← Nat.add_mul]
    congr 1; omega
  · intro r hr
    rcases List.mem_append.1 hr with h | h
    · exact hl1 r h
    · exact hl2 r h
  · rw [List.flatten_append]
    have : (olds.toArray ++ news.toArray ++ Builtin.zeroCells z.cells (cap - (ro.length + rn.length))).toList.take ((ro ++ rn).length * s) = olds ++ news := by
      rw [List.length_append, Nat.add_mul, ← e1, ← e2]
      simp only [Array.toList_append]
      rw [List.append_assoc, List.take_length_add_append, List.take_left']
      rfl
    rw [this]
    exact RepOnes.append h1 h2
  · rw [List.length_append]
    simp only [Array.toList_append]
    exact grown_ln e1 e2 hk1 hk2

/-- Rows of an array of the call's own are written over. -/
theorem piece_write (h : SimG w0 S0 M σ a w S μ β) {id cv s : Nat} {rows : List (List IV)} (hl : look σ.objs id = some (.arr cv s rows)) (hro : id ∉ σ.ro) {b cap : Nat} {us : Array Value} {e : TypeId} {fr : Nat × Nat}
    (hβ : β id = some b) (hmu : μ id = .slice (some ⟨b, 0, none⟩) rows.length cap) (hh : w.heap[b]? = some (.cells us e fr)) (hf : NoFrz fr us.size) (hsz : us.size = cap * s) (hle : rows.length ≤ cap) (hlens : ∀ r ∈ rows, r.length = s)
    (hrep : RepOnes w S rows.flatten (us.toList.take (rows.length * s))) {pos : Nat} {rn : List (List IV)} {news : List Value} (hrn : RepOnes w S rn.flatten news) (hln : ∀ r ∈ rn, r.length = s) (hpos : pos + rn.length ≤ rows.length) :
    ∃ w', (storeCells ⟨b, pos * s, none⟩ news 0).run P w = .ok () w' ∧ SimG w0 S0 M { σ with objs := put σ.objs id (.arr cv s (rows.take pos ++ (rn ++ rows.drop (pos + rn.length)))) } a w' S μ β := by
  have hnl := RepOnes.length hrn
  have hfn := flatten_length hln
  have hmul : (pos + rn.length) * s ≤ rows.length * s := Nat.mul_le_mul_right _ hpos
  have hmul2 : rows.length * s ≤ cap * s := Nat.mul_le_mul_right _ hle
  have hadd : (pos + rn.length) * s = pos * s + rn.length * s := Nat.add_mul _ _ _
  obtain ⟨w', vs', r1, r2, r3⟩ := run_storeCells P (off := pos * s) news 0 us w hh hf (by omega) (RepOnes.oneCells hrn)
  refine ⟨w', r1, ?_⟩
  have hkeeps : Keeps S w w' := by
    refine ⟨?_, r2.shape⟩
    intro b' off' hS
    have : b' ≠ b := by
      rintro rfl
      exact hro (h.unst id _ b' off' hl hβ hS).1
    exact cell_of_heap (r2.other b' this) off'
  have hlen' : (rows.take pos ++ (rn ++ rows.drop (pos + rn.length))).length = rows.length := by
    simp only [List.length_append, List.length_take, List.length_drop]; omega
  have hss : vs'.size = us.size := by
    have := congrArg List.length r3
    simp only [Array.length_toList, List.length_append, List.length_take, List.length_drop] at this
    omega
  refine h.write hl hβ r2 hro (.inr (.inl ⟨cv, s, rows, _, rfl, rfl, hlen'.symm⟩)) (x' := .arr cv s (rows.take pos ++ (rn ++ rows.drop (pos + rn.length)))) ?_
  refine .inr ⟨b, cap, vs', e, fr, rfl, by rw [hlen']; exact hmu, r2.here, by rw [hss]; exact hf, by rw [hss]; exact hsz, by rw [hlen']; exact hle, ?_, ?_⟩
  · intro r hr
    rcases List.mem_append.1 hr with hr | hr
    · exact hlens r (List.mem_of_mem_take hr)
    · rcases List.mem_append.1 hr with hr | hr
      · exact hln r hr
      · exact hlens r (List.mem_of_mem_drop hr)
  · rw [hlen', List.flatten_append, List.flatten_append, flatten_take hlens, flatten_drop hlens, r3]
    simp only [Nat.add_zero]
    have huse : us.toList.length = cap * s := by simpa using hsz
    have e2 := splice_take (A := us.toList) (Y := news) (X := pos * s) (s := rn.length * s) (R := rows.length * s) (off := 0) (n := rn.length * s) (by omega) (by omega) (by omega) (by omega)
    simp only [Nat.add_zero, Nat.zero_add, List.take_zero, List.nil_append] at e2
    rw [show pos * s + news.length = pos * s + rn.length * s by omega, e2]
    have e3 : (((us.toList.take (rows.length * s)).drop (pos * s)).take (rn.length * s)).drop (rn.length * s) = [] := by
      apply List.drop_eq_nil_of_le
      rw [List.length_take]; omega
    rw [e3, List.append_nil, List.append_assoc, hadd]
    exact RepOnes.append (RepOnes.mono hkeeps (fun _ _ x => x) _ _ (RepOnes.take _ hrep)) (RepOnes.append (RepOnes.mono hkeeps (fun _ _ x => x) _ _ hrn) (RepOnes.mono hkeeps (fun _ _ x => x) _ _ (RepOnes.drop _ hrep)))

/-- An object is put where it is. -/
theorem put_same (h : SimG w0 S0 M σ a w S μ β) {id : Nat} {x : Ob} (hl : look σ.objs id = some x) : SimG w0 S0 M { σ with objs := put σ.objs id x } a w S μ β :=
  h.drop rfl rfl (fun _ _ _ hi => hi) (fun _ => .inr rfl) (fun j y hj => by
    rw [look_put] at hj
    split at hj
    · next e => subst e; rw [hl]; exact hj
    · exact hj)

theorem shape_alloc_at (w : World) (cs : Array Value) (e : TypeId) : (w.drew.alloc (.cells cs e)).shape? w.heap.size = some (e, cs.size) := by
  have : (w.drew.alloc (.cells cs e)).heap[w.heap.size]? = some (.cells cs e) := heap_alloc_at w.drew _
  simp only [World.shape?, this]
/-- A handle on an array, with its elements' type or without. -/
def ownS (tt : Option Nat) (id ver : Nat) : SV := match tt with | none => .own id ver | some t => .ownT id ver t
theorem append_own' (tt : Option Nat) (h : SimG w0 S0 M σ a w S μ β) (hd : ∀ d, o.dst = some d → d < σ.n) {ats : Array TypeId} {ty t t' e e' : TypeId} {i : TypeInfo} {z : Value} (h0 : ats[0]? = some t) (h1 : ats[1]? = some t')
    (ht : P.underlying t = some (.slice e)) (ht' : P.underlying t' = some (.slice e') ∨ P.underlying t' = some .string) (hi : P.info? e = some i) (hpos : 0 < i.size) (hbpos : 0 < i.bytes) (hz : i.zero = some z) (hzs : z.cells.size = i.size) {vx vy : Value}
    (hrun : ∀ {v : Value} {w' : World}, (Builtin.append_ ats ty #[vx, vy]).run P w = .ok v w' → (execOp a.eval o).run P w = .ok (.value v) w')
    {id cv : Nat} {rows new : List (List IV)} (hl : look σ.objs id = some (.arr cv i.size rows)) (hvx : vx = μ id) {news : List Value} (hlen : ∀ w' : World, (Builtin.lenOf vy).run P w' = .ok new.length w') (hn0 : RepOnes w S new.flatten news)
    (hn2 : ∀ w' : World, w'.heap = w.heap → (Builtin.firstCells i.size new.length vy).run P w' = .ok news.toArray w') (hlens : ∀ r ∈ new, r.length = i.size) (hbytes : (rows.length + new.length) * i.bytes ≤ 35184372088832)
    (hT : ∀ t, tt = some t → t = e ∧ ∀ a n c, vx = .slice (some a) n c → ∃ m, w.shape? a.block = some (t, m)) :
    Does P o a w (fun v w' => Sim w0 S0 M (σ.apply o.dst { v := ownS tt id (cv + 1), wr := some (id, .arr (cv + 1) i.size (rows ++ new)) }) (a.put o.dst v) w') := by
  have small : ∀ n, n * i.bytes ≤ 35184372088832 → n ≤ 9223372036854775807 := by
    intro n hn
    have : n * 1 ≤ n * i.bytes := Nat.mul_le_mul_left _ hbpos
    omega
  have hkal : ∀ (fz : List Nat) (x : Go.Obj), Keeps (Plus S β σ.objs fz) w (w.drew.alloc x) := by
    intro fz x
    refine ⟨fun b off hS => ?_, (kept_drew_alloc w x).shape⟩
    exact cell_of_heap ((kept_drew_alloc w x).block b ((h.freeze fz).stab b off hS) (fun x => x)) off
  have hn1 : RepOnes w (Plus S β σ.objs []) new.flatten news := RepOnes.mono (Keeps.refl _ _) (fun _ _ x => .inl x) _ _ hn0
  have h00 := h.freeze []
  -- what follows for the state, once the object has turned
  have fin : ∀ {w' : World} {blk : Option Nat} {mu : Value}, (Builtin.append_ ats ty #[vx, vy]).run P w = .ok mu w' → Keeps (Plus S β σ.objs []) w w' → Kept M.blocks w0 w' → w.heap.size ≤ w'.heap.size →
      (∀ id' x b, id' ≠ id → look σ.objs id' = some x → β id' = some b → w'.heap[b]? = w.heap[b]?) → ObRel w' (Plus S β σ.objs []) μ σ.objs blk mu (.arr (cv + 1) i.size (rows ++ new)) → (∀ b, blk = some b → (β id = some b ∨ w.heap.size ≤ b)) →
      (∀ b, blk = some b → β id = some b ∨ ∀ off, ¬ Plus S β σ.objs [] b off) → (∀ t, tt = some t → ∀ a n c, mu = .slice (some a) n c → ∃ m, w'.shape? a.block = some (t, m)) →
      Does P o a w (fun v w' => Sim w0 S0 M (σ.apply o.dst { v := ownS tt id (cv + 1), wr := some (id, .arr (cv + 1) i.size (rows ++ new)) }) (a.put o.dst v) w') := by
    intro w' blk mu hrn hkeeps hkept hsize hblk hob hb hb2 hsh
    refine ⟨_, mu, w', hrun hrn, .inl rfl, Plus S β σ.objs [], (fun j => if j = id then mu else μ j), (fun j => if j = id then blk else β j), ?_⟩
    have h2 := h00.turn hl blk mu hkeeps hkept hsize hblk (.inr (.inl ⟨cv, i.size, rows, cv + 1, _, rfl, rfl, by omega, fun e => by omega⟩)) hob hb (by
      intro b off hbb hS
      rcases hb2 b hbb with h3 | h3
      · obtain ⟨h4, h5⟩ := h00.unst id _ b off hl h3 hS
        refine ⟨h4, fun ver s rows' e => ?_⟩
        simp only [Ob.arr.injEq] at e
        obtain ⟨_, rfl, rfl⟩ := e
        have := h5 _ _ _ rfl
        rw [List.length_append, Nat.add_mul]
        omega
      · exact absurd hS (h3 off))
    refine h2.putD hd ?_
    have hown : ∀ cv' s'' rows', look (Vs.put σ.objs id (.arr (cv + 1) i.size (rows ++ new))) id = some (.arr cv' s'' rows') → cv + 1 ≤ cv' ∧ (cv + 1 = cv' → mu = (fun j => if j = id then mu else μ j) id) := by
      intro cv' s'' rows' hl'
      rw [look_put_self] at hl'
      simp only [Option.some.injEq, Ob.arr.injEq] at hl'
      obtain ⟨rfl, _, _⟩ := hl'
      exact ⟨Nat.le_refl _, fun _ => by simp⟩
    cases tt with
    | none => exact hown
    | some t => exact ⟨hown, hsh t rfl⟩
  rcases h.objs id _ hl with ⟨hr0, hβ, base, hmu⟩ | ⟨b, cap0, vs, e0, fr, hβ, hmu, hh, hf, hsz, hle, hlens0, hrep0⟩
  · -- nothing in it yet
    subst hr0
    rw [hmu] at hvx
    by_cases hm : new.length = 0
    · have hnew : new = [] := List.length_eq_zero_iff.1 hm
      subst hnew
      refine fin (blk := none) (mu := .slice base 0 0) (w' := w) ?_ (Keeps.refl _ _) h.kept (Nat.le_refl _) (fun _ _ _ _ _ _ => rfl) (.inl ⟨rfl, rfl, base, rfl⟩) (by simp) (by simp) (fun t ht a n c hh => (hT t ht).2 a n c (by rw [hvx]; exact hh))
      rw [hvx]
      obtain rfl : news = [] := hn0
      exact append_none' h0 h1 ht ht' hi (hlen w) (hn2 w rfl)
    · have hg : 0 < 0 + new.length := by omega
      have hr := append_grow' (w := w) (ty := ty) h0 h1 ht ht' hi hz (base := base) (sLen := 0) (sCap := 0) (olds := #[]) (hlen w) (by
        cases base with
        | none => simp [Builtin.firstCells]
        | some b => simp [Builtin.firstCells, loadCells, loadCellsFrom]) (hn2 w.drew rfl) hg (by have := small _ hbytes; simp at this; omega) (by simp at hbytes; simp only [Nat.zero_add]; omega)
      refine fin (blk := some w.heap.size) (by rw [hvx]; exact hr) (hkal [] _) (h.kept.trans (kept_drew_alloc w _).none) (by simp) (fun id' x b _ hl' hb' => (kept_drew_alloc w _).block b (ObRel.live hb' (h.objs id' x hl')) (fun x => x)) ?_ (fun b hb => .inr (by rw [← Option.some.inj hb]; exact Nat.le_refl _)) (fun b hb => .inr (fun off hS => by have := h00.stab b off hS; rw [← Option.some.inj hb] at this; omega)) (fun t ht a n c hh => by
        obtain ⟨rfl, _⟩ := hT t ht
        simp only [Value.slice.injEq, Option.some.injEq] at hh
        obtain ⟨rfl, _, _⟩ := hh
        exact ⟨_, shape_alloc_at w _ _⟩)
      have := grown_ob (w' := w.drew.alloc (.cells (#[] ++ news.toArray ++ Builtin.zeroCells z.cells (grownCap w (0 + new.length) 0 e - (0 + new.length))) e)) (S := Plus S β σ.objs []) (olds := []) (news := news) (ro := []) (rn := new) (e := e) (s := i.size) (z := z) (ver := cv + 1) (cap := grownCap w (0 + new.length) 0 e) (μ := μ) (objs := σ.objs) hzs rfl (RepOnes.mono (hkal [] _) (fun _ _ x => x) _ _ hn1) (by simp) hlens (grownCap_ge' _ _ _) (b := w.heap.size) (by simpa using heap_alloc_at w.drew _)
      simpa using this
  · rw [hmu] at hvx
    have hfl := flatten_length hlens0
    have hfln := flatten_length hlens
    by_cases hroom : rows.length + new.length ≤ cap0
    · -- there is room
      have hnl := RepOnes.length hn1
      have hmul : (rows.length + new.length) * i.size ≤ cap0 * i.size := Nat.mul_le_mul_right _ hroom
      rw [Nat.add_mul] at hmul
      obtain ⟨w', vs', r1, r2, r3⟩ := run_storeCells (off := rows.length * i.size) P news 0 vs w hh hf (by omega) (RepOnes.oneCells hn1)
      have hr := append_room' (w := w) (ty := ty) h0 h1 ht ht' hi (b := b) (sLen := rows.length) (sCap := cap0) (hlen w) (hn2 w rfl) hroom (by simpa using r1)
      have hkeeps : Keeps (Plus S β σ.objs []) w w' := by
        refine ⟨?_, r2.shape⟩
        intro b' off' hS
        by_cases hbb : b' = b
        · subst hbb
          have hoff := (h00.unst id _ b' off' hl hβ hS).2 _ _ _ rfl
          rw [cell_row r2.here, cell_row hh, ← Array.getElem?_toList, ← Array.getElem?_toList, r3, Nat.add_zero]
          rw [List.append_assoc, List.getElem?_append_left (by rw [List.length_take]; simp; omega), List.getElem?_take, if_pos hoff]
        · exact cell_of_heap (r2.other b' hbb) off'
      have hvs : vs'.size = vs.size := by
        have := congrArg List.length r3
        simp only [Array.length_toList, List.length_append, List.length_take, List.length_drop] at this
        omega
      refine fin (blk := some b) (by rw [hvx]; exact hr) hkeeps (wrote_kept h hl hβ r2) (by rw [r2.size]; exact Nat.le_refl _) (fun id' x b' hid hl' hb' => r2.other b' (fun e => hid (h.inj id' id x _ b' hl' hl hb' (e ▸ hβ)))) ?_ (fun b' hb' => .inl (by rw [hβ]; exact hb')) (fun b' hb' => .inl (by rw [hβ]; exact hb')) (fun t ht a n c hh => by
        simp only [Value.slice.injEq, Option.some.injEq] at hh
        obtain ⟨rfl, _, _⟩ := hh
        obtain ⟨m, hm⟩ := (hT t ht).2 _ _ _ hvx
        exact ⟨m, r2.shape _ _ hm⟩)
      refine .inr ⟨b, cap0, vs', e0, fr, rfl, by rw [List.length_append], r2.here, by rw [hvs]; exact hf, by rw [hvs]; exact hsz, by rw [List.length_append]; exact hroom, ?_, ?_⟩
      · intro r hr
        rcases List.mem_append.1 hr with h | h
        · exact hlens0 r h
        · exact hlens r h
      · rw [List.flatten_append, List.length_append, Nat.add_mul, r3]
        simp only [Nat.add_zero]
        have hA : (vs.toList.take (rows.length * i.size)).length = rows.length * i.size := by rw [List.length_take]; simp; omega
        rw [List.append_assoc]
        have : (vs.toList.take (rows.length * i.size) ++ (news ++ vs.toList.drop (rows.length * i.size + news.length))).take (rows.length * i.size + new.length * i.size) = vs.toList.take (rows.length * i.size) ++ news := by
          have e1 := List.take_length_add_append (l₁ := vs.toList.take (rows.length * i.size)) (l₂ := news ++ vs.toList.drop (rows.length * i.size + news.length)) (i := new.length * i.size)
          rw [hA] at e1
          rw [e1, ← hfln, ← hnl, List.take_left']
          rfl
        rw [this]
        exact RepOnes.append (RepOnes.mono ⟨fun b off hS => hkeeps.1 b off (.inl hS), hkeeps.2⟩ (fun _ _ x => .inl x) _ _ hrep0) (RepOnes.mono hkeeps (fun _ _ x => x) _ _ hn1)
    · -- there is none
      have hg : cap0 < rows.length + new.length := by omega
      have holds : (Builtin.firstCells i.size rows.length (.slice (some ⟨b, 0, none⟩) rows.length cap0)).run P w.drew = .ok (vs.toList.take (rows.length * i.size)).toArray w.drew := by
        refine run_firstCells_some (P := P) w.drew i.size rows.length ⟨b, 0, none⟩ rows.length cap0 (vs.toList.take (rows.length * i.size)) ?_ ?_
        · have : rows.length * i.size ≤ cap0 * i.size := Nat.mul_le_mul_right _ hle
          rw [List.length_take]; simp; omega
        · intro j v hj
          rw [add_none]
          rw [List.getElem?_take] at hj
          split at hj
          · show w.cell? _ = _
            rw [cell_row hh, Nat.zero_add, ← Array.getElem?_toList]; exact hj
          · simp at hj
      have hr := append_grow' (w := w) (ty := ty) h0 h1 ht ht' hi hz (base := some ⟨b, 0, none⟩) (sLen := rows.length) (sCap := cap0) (hlen w) holds (hn2 w.drew rfl) hg (small _ hbytes) (by omega)
      refine fin (blk := some w.heap.size) (by rw [hvx]; exact hr) (hkal [] _) (h.kept.trans (kept_drew_alloc w _).none) (by simp) (fun id' x b _ hl' hb' => (kept_drew_alloc w _).block b (ObRel.live hb' (h.objs id' x hl')) (fun x => x)) ?_ (fun b hb => .inr (by rw [← Option.some.inj hb]; exact Nat.le_refl _)) (fun b hb => .inr (fun off hS => by have := h00.stab b off hS; rw [← Option.some.inj hb] at this; omega)) (fun t ht a n c hh => by
        obtain ⟨rfl, _⟩ := hT t ht
        simp only [Value.slice.injEq, Option.some.injEq] at hh
        obtain ⟨rfl, _, _⟩ := hh
        exact ⟨_, shape_alloc_at w _ _⟩)
      exact grown_ob hzs (RepOnes.mono ⟨fun b off hS => (hkal [] _).1 b off (.inl hS), (hkal [] _).2⟩ (fun _ _ x => .inl x) _ _ hrep0) (RepOnes.mono (hkal [] _) (fun _ _ x => x) _ _ hn1) hlens0 hlens (grownCap_ge' _ _ _) (heap_alloc_at w.drew _)

theorem append_own (tt : Option Nat) (h : SimG w0 S0 M σ a w S μ β) (hd : ∀ d, o.dst = some d → d < σ.n) {ats : Array TypeId} {ty t t' e e' : TypeId} {i : TypeInfo} {z : Value} (h0 : ats[0]? = some t) (h1 : ats[1]? = some t')
    (ht : P.underlying t = some (.slice e)) (ht' : P.underlying t' = some (.slice e')) (hi : P.info? e = some i) (hpos : 0 < i.size) (hbpos : 0 < i.bytes) (hz : i.zero = some z) (hzs : z.cells.size = i.size) {vx vy : Value}
    (hrun : ∀ {v : Value} {w' : World}, (Builtin.append_ ats ty #[vx, vy]).run P w = .ok v w' → (execOp a.eval o).run P w = .ok (.value v) w')
    {id cv : Nat} {rows new : List (List IV)} (hl : look σ.objs id = some (.arr cv i.size rows)) (hvx : vx = μ id) {ad : Option Addr} {cap : Nat} {news : List Value} (hvy : vy = .slice ad new.length cap) (hn0 : RepOnes w S new.flatten news)
    (hn2 : ∀ w' : World, w'.heap = w.heap → (Builtin.firstCells i.size new.length (.slice ad new.length cap)).run P w' = .ok news.toArray w') (hlens : ∀ r ∈ new, r.length = i.size) (hbytes : (rows.length + new.length) * i.bytes ≤ 35184372088832)
    (hT : ∀ t, tt = some t → t = e ∧ ∀ a n c, vx = .slice (some a) n c → ∃ m, w.shape? a.block = some (t, m)) :
    Does P o a w (fun v w' => Sim w0 S0 M (σ.apply o.dst { v := ownS tt id (cv + 1), wr := some (id, .arr (cv + 1) i.size (rows ++ new)) }) (a.put o.dst v) w') :=
  append_own' tt h hd h0 h1 ht (.inl ht') hi hpos hbpos hz hzs hrun hl hvx (fun w' => by rw [hvy]; rfl) hn0 (fun w' hw => by rw [hvy]; exact hn2 w' hw) hlens hbytes hT

theorem append_tab (h : SimG w0 S0 M σ a w S μ β) (hd : ∀ d, o.dst = some d → d < σ.n) {ats : Array TypeId} {ty t t' e e' : TypeId} {i : TypeInfo} {z : Value} (h0 : ats[0]? = some t) (h1 : ats[1]? = some t')
    (ht : P.underlying t = some (.slice e)) (ht' : P.underlying t' = some (.slice e')) (hi : P.info? e = some i) (hpos : 0 < i.size) (hbpos : 0 < i.bytes) (hz : i.zero = some z) (hzs : z.cells.size = i.size) {vx vy : Value}
    (hrun : ∀ {v : Value} {w' : World}, (Builtin.append_ ats ty #[vx, vy]).run P w = .ok v w' → (execOp a.eval o).run P w = .ok (.value v) w')
    {new : List (List IV)} (hne : new ≠ []) {id cv : Nat} {rows : List (List IV)} {ln ln2 : List (Nat × Nat × SV)} (hl : look σ.objs id = some (.tab cv i.size rows ln)) (hro : id ∉ σ.ro) (hvx : vx = μ id) {ad : Option Addr} {cap : Nat} {news : List Value} (hvy : vy = .slice ad new.length cap) (hn0 : RepOnes w S new.flatten news)
    (hn2 : ∀ w' : World, w'.heap = w.heap → (Builtin.firstCells i.size new.length (.slice ad new.length cap)).run P w' = .ok news.toArray w') (hlens : ∀ r ∈ new, r.length = i.size) (hbytes : (rows.length + new.length) * i.bytes ≤ 35184372088832) (hln2 : LnRel w S μ σ.objs i.size new.length news ln2) :
    Does P o a w (fun v w' => Sim w0 S0 M (σ.apply o.dst { v := .town id (cv + 1), wr := some (id, .tab (cv + 1) i.size (rows ++ new) (ln ++ lnShift rows.length ln2)) }) (a.put o.dst v) w') := by
  have small : ∀ n, n * i.bytes ≤ 35184372088832 → n ≤ 9223372036854775807 := by
    intro n hn
    have : n * 1 ≤ n * i.bytes := Nat.mul_le_mul_left _ hbpos
    omega
  have hkal : ∀ (x : Go.Obj), Keeps S w (w.drew.alloc x) := by
    intro x
    refine ⟨fun b off hS => ?_, (kept_drew_alloc w x).shape⟩
    exact cell_of_heap ((kept_drew_alloc w x).block b (h.stab b off hS) (fun x => x)) off
  have hlen : ∀ w' : World, (Builtin.lenOf vy).run P w' = .ok new.length w' := fun w' => by rw [hvy]; rfl
  have hn2' : ∀ w' : World, w'.heap = w.heap → (Builtin.firstCells i.size new.length vy).run P w' = .ok news.toArray w' := fun w' hw => by rw [hvy]; exact hn2 w' hw
  have fin : ∀ {w' : World} {blk : Option Nat} {mu : Value}, (Builtin.append_ ats ty #[vx, vy]).run P w = .ok mu w' → Keeps S w w' → Kept M.blocks w0 w' → w.heap.size ≤ w'.heap.size →
      (∀ id' x b, id' ≠ id → look σ.objs id' = some x → β id' = some b → w'.heap[b]? = w.heap[b]?) → ObRel w' S μ σ.objs blk mu (.tab (cv + 1) i.size (rows ++ new) (ln ++ lnShift rows.length ln2)) → (∀ b, blk = some b → (β id = some b ∨ w.heap.size ≤ b)) →
      (∀ b, blk = some b → ∀ off, ¬ S b off) →
      Does P o a w (fun v w' => Sim w0 S0 M (σ.apply o.dst { v := .town id (cv + 1), wr := some (id, .tab (cv + 1) i.size (rows ++ new) (ln ++ lnShift rows.length ln2)) }) (a.put o.dst v) w') := by
    intro w' blk mu hrn hkeeps hkept hsize hblk hob hb hb2
    refine ⟨_, mu, w', hrun hrn, .inl rfl, S, (fun j => if j = id then mu else μ j), (fun j => if j = id then blk else β j), ?_⟩
    have h2 := h.turn hl blk mu hkeeps hkept hsize hblk (.inr (.inr (.inr ⟨cv, i.size, rows, ln, cv + 1, _, _, rfl, rfl, by omega, fun e => by omega⟩))) hob hb (fun b off hbb hS => absurd hS (hb2 b hbb off))
    refine SimG.putD (σ := { σ with objs := Vs.put σ.objs id (.tab (cv + 1) i.size (rows ++ new) (ln ++ lnShift rows.length ln2)) }) h2 hd ?_
    intro cv' s'' rows' ln' hl'
    rw [look_put_self] at hl'
    simp only [Option.some.injEq, Ob.tab.injEq] at hl'
    obtain ⟨rfl, _, _⟩ := hl'
    exact ⟨Nat.le_refl _, fun _ => by simp⟩
  rcases h.objs id _ hl with ⟨rfl, rfl, hβ, base, hmu⟩ | ⟨b, cap0, vs, e0, fr, hβ, hmu, hh, hf, hsz, hle, hlens0, hrep0, hln0⟩
  · rw [hmu] at hvx
    have hm : new.length ≠ 0 := fun e => hne (List.length_eq_zero_iff.1 e)
    have hg : 0 < 0 + new.length := by omega
    have hr := append_grow' (w := w) (ty := ty) h0 h1 ht (.inl ht') hi hz (base := base) (sLen := 0) (sCap := 0) (olds := #[]) (hlen w) (by
      cases base with
      | none => simp [Builtin.firstCells]
      | some b => simp [Builtin.firstCells, loadCells, loadCellsFrom]) (hn2' w.drew rfl) hg (by have := small _ hbytes; simp at this; omega) (by simp at hbytes; simp only [Nat.zero_add]; omega)
    refine fin (blk := some w.heap.size) (by rw [hvx]; exact hr) (hkal _) (h.kept.trans (kept_drew_alloc w _).none) (by simp) (fun id' x b _ hl' hb' => (kept_drew_alloc w _).block b (ObRel.live hb' (h.objs id' x hl')) (fun x => x)) ?_ (fun b hb => .inr (by rw [← Option.some.inj hb]; exact Nat.le_refl _)) (fun b hb off hS => by have := h.stab b off hS; rw [← Option.some.inj hb] at this; omega)
    have := grown_tab (w' := w.drew.alloc (.cells (#[] ++ news.toArray ++ Builtin.zeroCells z.cells (grownCap w (0 + new.length) 0 e - (0 + new.length))) e)) (S := S) (olds := []) (news := news) (ro := []) (rn := new) (e := e) (s := i.size) (z := z) (ver := cv + 1) (cap := grownCap w (0 + new.length) 0 e) (μ := μ) (objs := σ.objs) (ln := []) (ln2 := ln2) hzs rfl (RepOnes.mono (hkal _) (fun _ _ x => x) _ _ hn0) (by simp) hlens (grownCap_ge' _ _ _) (b := w.heap.size) (by simpa using heap_alloc_at w.drew _) trivial (LnRel.mono (hkal _) (fun _ _ x => x) hln2)
    simpa using this
  have hunst : ∀ off, ¬ S b off := fun off hS => hro (h.unst id _ b off hl hβ hS).1
  rw [hmu] at hvx
  have hfl := flatten_length hlens0
  have hfln := flatten_length hlens
  have hnl := RepOnes.length hn0
  have hcapm : rows.length * i.size ≤ cap0 * i.size := Nat.mul_le_mul_right _ hle
  have hul : (vs.toList.take (rows.length * i.size)).length = rows.length * i.size := by rw [List.length_take]; simp; omega
  have hlnT : LnRel w S μ σ.objs i.size rows.length (vs.toList.take (rows.length * i.size)) ln := LnRel.vals (Nat.le_refl _) (fun i' j hi' hj => by
    have := Nat.mul_le_mul_right i.size (show i' + 1 ≤ rows.length from hi')
    rw [Nat.add_mul] at this
    rw [List.getElem?_take, if_pos (by omega)]) hln0
  by_cases hroom : rows.length + new.length ≤ cap0
  · have hmul : (rows.length + new.length) * i.size ≤ cap0 * i.size := Nat.mul_le_mul_right _ hroom
    rw [Nat.add_mul] at hmul
    obtain ⟨w', vs', r1, r2, r3⟩ := run_storeCells (off := rows.length * i.size) P news 0 vs w hh hf (by omega) (RepOnes.oneCells hn0)
    have hr := append_room' (w := w) (ty := ty) h0 h1 ht (.inl ht') hi (b := b) (sLen := rows.length) (sCap := cap0) (hlen w) (hn2' w rfl) hroom (by simpa using r1)
    have hkeeps : Keeps S w w' := by
      refine ⟨?_, r2.shape⟩
      intro b' off' hS
      have hbb : b' ≠ b := fun e => hunst off' (e ▸ hS)
      exact cell_of_heap (r2.other b' hbb) off'
    have hvs : vs'.size = vs.size := by
      have := congrArg List.length r3
      simp only [Array.length_toList, List.length_append, List.length_take, List.length_drop] at this
      omega
    rw [Nat.add_zero] at r3
    refine fin (blk := some b) (by rw [hvx]; exact hr) hkeeps (wrote_kept h hl hβ r2) (by rw [r2.size]; exact Nat.le_refl _) (fun id' x b' hid hl' hb' => r2.other b' (fun e => hid (h.inj id' id x _ b' hl' hl hb' (e ▸ hβ)))) ?_ (fun b' hb' => .inl (by rw [hβ]; exact hb')) (fun b' hb' => by rw [← Option.some.inj hb']; exact hunst)
    refine .inr ⟨b, cap0, vs', e0, fr, rfl, by rw [List.length_append], r2.here, by rw [hvs]; exact hf, by rw [hvs]; exact hsz, by rw [List.length_append]; exact hroom, ?_, ?_, ?_⟩
    · intro r hr
      rcases List.mem_append.1 hr with h | h
      · exact hlens0 r h
      · exact hlens r h
    · rw [List.flatten_append, List.length_append, Nat.add_mul, r3]
      rw [List.append_assoc]
      have : (vs.toList.take (rows.length * i.size) ++ (news ++ vs.toList.drop (rows.length * i.size + news.length))).take (rows.length * i.size + new.length * i.size) = vs.toList.take (rows.length * i.size) ++ news := by
        have e1 := List.take_length_add_append (l₁ := vs.toList.take (rows.length * i.size)) (l₂ := news ++ vs.toList.drop (rows.length * i.size + news.length)) (i := new.length * i.size)
        rw [hul] at e1
        rw [e1, ← hfln, ← hnl, List.take_left']
        rfl
      rw [this]
      exact RepOnes.append (RepOnes.mono hkeeps (fun _ _ x => x) _ _ hrep0) (RepOnes.mono hkeeps (fun _ _ x => x) _ _ hn0)
    · rw [List.length_append, r3]
      exact LnRel.mono hkeeps (fun _ _ x => x) (grown_ln hul (by omega) hlnT hln2)
  · have hg : cap0 < rows.length + new.length := by omega
    have holds : (Builtin.firstCells i.size rows.length (.slice (some ⟨b, 0, none⟩) rows.length cap0)).run P w.drew = .ok (vs.toList.take (rows.length * i.size)).toArray w.drew := by
      refine run_firstCells_some (P := P) w.drew i.size rows.length ⟨b, 0, none⟩ rows.length cap0 (vs.toList.take (rows.length * i.size)) ?_ ?_
      · rw [List.length_take]; simp; omega
      · intro j v hj
        rw [add_none]
        rw [List.getElem?_take] at hj
        split at hj
        · show w.cell? _ = _
          rw [cell_row hh, Nat.zero_add, ← Array.getElem?_toList]; exact hj
        · simp at hj
    have hr := append_grow' (w := w) (ty := ty) h0 h1 ht (.inl ht') hi hz (base := some ⟨b, 0, none⟩) (sLen := rows.length) (sCap := cap0) (hlen w) holds (hn2' w.drew rfl) hg (small _ hbytes) (by omega)
    refine fin (blk := some w.heap.size) (by rw [hvx]; exact hr) (hkal _) (h.kept.trans (kept_drew_alloc w _).none) (by simp) (fun id' x b _ hl' hb' => (kept_drew_alloc w _).block b (ObRel.live hb' (h.objs id' x hl')) (fun x => x)) ?_ (fun b hb => .inr (by rw [← Option.some.inj hb]; exact Nat.le_refl _)) (fun b hb off hS => by have := h.stab b off hS; rw [← Option.some.inj hb] at this; omega)
    exact grown_tab hzs (RepOnes.mono (hkal _) (fun _ _ x => x) _ _ hrep0) (RepOnes.mono (hkal _) (fun _ _ x => x) _ _ hn0) hlens0 hlens (grownCap_ge' _ _ _) (heap_alloc_at w.drew _) (LnRel.mono (hkal _) (fun _ _ x => x) hlnT) (LnRel.mono (hkal _) (fun _ _ x => x) hln2)

theorem snd_append (h : SimG w0 S0 M σ a w S μ β) (hd : ∀ d, o.dst = some d → d < σ.n) {c : Call} {t t' e e' : TypeId} {i : TypeInfo} {x y : Operand} {x' y' : Opd} (ho : o.op = .call c) (hb : c.callee = .builtin .append) (h0 : c.argTypes[0]? = some t) (h1 : c.argTypes[1]? = some t')
    (hal : c.args.toList = [x, y]) (ht : P.underlying t = some (.slice e)) (ht' : P.underlying t' = some (.slice e')) (hi : P.info? e = some i) (hok : 0 < i.size ∧ 0 < i.bytes ∧ i.zero.any (fun z => z.cells.size == i.size) = true)
    (hx : compOpd x = some x') (hy : compOpd y = some y') {u : Upd} (hu : ev σ o.dst (.append e i.size i.bytes x' y') = some u) (hs : u.side) :
    Does P o a w (fun v w' => Sim w0 S0 M (σ.apply o.dst u) (a.put o.dst v) w') := by
  have hrelx := opd_sound h hx
  have hrely := opd_sound h hy
  obtain ⟨hpos, hbpos, hzero⟩ := hok
  obtain ⟨z, hz, hzs⟩ : ∃ z, i.zero = some z ∧ z.cells.size = i.size := by
    cases hzz : i.zero with
    | none => rw [hzz] at hzero; simp at hzero
    | some z => rw [hzz] at hzero; exact ⟨z, rfl, by simpa using hzero⟩
  obtain ⟨consts, hex⟩ := exec_builtin (a := a) ho hb
  have hargs := toList_two hal
  have hrun : ∀ {v : Value} {w' : World}, (Builtin.append_ c.argTypes o.type #[a.eval x, a.eval y]).run P w = .ok v w' → (execOp a.eval o).run P w = .ok (.value v) w' := by
    intro v w' hr
    rw [hex, hargs]
    simp [builtin, hr]
  have small : ∀ n, n * i.bytes ≤ 35184372088832 → n ≤ 9223372036854775807 := by
    intro n hn
    have : n * 1 ≤ n * i.bytes := Nat.mul_le_mul_left _ hbpos
    omega
  simp only [ev] at hu
  split at hu
  · simp at hu
  · next new rd hrows =>
    have hkd : ∀ (fz : List Nat) b off, Plus S β σ.objs fz b off → w.drew.cell? ⟨b, off, none⟩ = w.cell? ⟨b, off, none⟩ := fun _ _ _ _ => rfl
    have hkal : ∀ (fz : List Nat) (x : Go.Obj), Keeps (Plus S β σ.objs fz) w (w.drew.alloc x) := by
      intro fz x
      refine ⟨fun b off hS => ?_, (kept_drew_alloc w x).shape⟩
      exact cell_of_heap ((kept_drew_alloc w x).block b ((h.freeze fz).stab b off hS) (fun x => x)) off
    split at hu
    · -- nil
      next heq =>
      rw [heq] at hrelx
      obtain ⟨base, hvx⟩ := hrelx
      split at hu
      · next d hdst _ =>
        obtain rfl := Option.some.inj hu
        obtain ⟨hbytes, hlens⟩ : new.length * i.bytes ≤ 35184372088832 ∧ ∀ r ∈ new, r.length = i.size := hs
        obtain ⟨ad, cap, news, hvy, hn0, hn2⟩ := src_cells (P := P) h hrows hrely hlens
        have hn1 : RepOnes w (Plus S β σ.objs []) new.flatten news := RepOnes.mono (Keeps.refl _ _) (fun _ _ x => .inl x) _ _ hn0
        by_cases hm : new.length = 0
        · have hnew : new = [] := List.length_eq_zero_iff.1 hm
          subst hnew
          refine does_new h hdst (hd d hdst) (fz := []) (blk := none) (mu := .slice base 0 0) (v := .slice base 0 0) (w' := w) (hrun ?_) (Kept.refl _ _) (by simp) (.inl ⟨rfl, rfl, base, rfl⟩) (.inr ⟨⟨_, _, rfl⟩, rfl, rfl⟩)
          rw [hvx, hvy]
          exact append_none h0 h1 ht ht' hi
        · have hg : 0 < 0 + new.length := by omega
          have hr := append_grow (w := w) (ty := o.type) h0 h1 ht ht' hi hz (base := base) (sLen := 0) (sCap := 0) (olds := #[]) (by
            cases base with
            | none => simp [Builtin.firstCells]
            | some b => simp [Builtin.firstCells, loadCells, loadCellsFrom]) (hn2 w.drew rfl) hg (by have := small _ hbytes; omega) (by simp only [Nat.zero_add]; omega)
          refine does_new h hdst (hd d hdst) (fz := []) (blk := some w.heap.size) (mu := .slice (some ⟨w.heap.size, 0, none⟩) (0 + new.length) (grownCap w (0 + new.length) 0 e)) (v := .slice (some ⟨w.heap.size, 0, none⟩) (0 + new.length) (grownCap w (0 + new.length) 0 e)) (w' := w.drew.alloc (.cells (#[] ++ news.toArray ++ Builtin.zeroCells z.cells (grownCap w (0 + new.length) 0 e - (0 + new.length))) e)) (hrun ?_) (kept_drew_alloc w _) (fun b hb => (Option.some.inj hb).symm) ?_ (.inr ⟨⟨_, _, rfl⟩, rfl, rfl⟩)
          · rw [hvx, hvy]; exact hr
          · have := grown_ob (w' := w.drew.alloc (.cells (#[] ++ news.toArray ++ Builtin.zeroCells z.cells (grownCap w (0 + new.length) 0 e - (0 + new.length))) e)) (S := Plus S β σ.objs []) (olds := []) (news := news) (ro := []) (rn := new) (e := e) (s := i.size) (z := z) (ver := 0) (cap := grownCap w (0 + new.length) 0 e) (μ := μ) (objs := σ.objs) hzs rfl (RepOnes.mono (hkal [] _) (fun _ _ x => x) _ _ hn1) (by simp) hlens (grownCap_ge' _ _ _) (b := w.heap.size) (by simpa using heap_alloc_at w.drew _)
            simpa using this
      · next d hdst _ =>
        obtain rfl := Option.some.inj hu
        obtain ⟨hne, hbytes, hlens⟩ : new ≠ [] ∧ new.length * i.bytes ≤ 35184372088832 ∧ ∀ r ∈ new, r.length = i.size := hs
        obtain ⟨ad, cap, news, hvy, hn0, hn2, hln⟩ := src_links (P := P) h hrows hrely hlens
        have hn1 : RepOnes w (Plus S β σ.objs []) new.flatten news := RepOnes.mono (Keeps.refl _ _) (fun _ _ x => .inl x) _ _ hn0
        have hm : new.length ≠ 0 := fun e => hne (List.length_eq_zero_iff.1 e)
        have hg : 0 < 0 + new.length := by omega
        have hr := append_grow (w := w) (ty := o.type) h0 h1 ht ht' hi hz (base := base) (sLen := 0) (sCap := 0) (olds := #[]) (by
          cases base with
          | none => simp [Builtin.firstCells]
          | some b => simp [Builtin.firstCells, loadCells, loadCellsFrom]) (hn2 w.drew rfl) hg (by have := small _ hbytes; omega) (by simp only [Nat.zero_add]; omega)
        refine does_newT h hdst (hd d hdst) (fz := []) (blk := some w.heap.size) (mu := .slice (some ⟨w.heap.size, 0, none⟩) (0 + new.length) (grownCap w (0 + new.length) 0 e)) (v := .slice (some ⟨w.heap.size, 0, none⟩) (0 + new.length) (grownCap w (0 + new.length) 0 e)) (w' := w.drew.alloc (.cells (#[] ++ news.toArray ++ Builtin.zeroCells z.cells (grownCap w (0 + new.length) 0 e - (0 + new.length))) e)) (hrun ?_) (kept_drew_alloc w _) (fun b hb => (Option.some.inj hb).symm) ?_ ⟨⟨_, _, _, rfl⟩, rfl, rfl⟩
        · rw [hvx, hvy]; exact hr
        · have := grown_tab (w' := w.drew.alloc (.cells (#[] ++ news.toArray ++ Builtin.zeroCells z.cells (grownCap w (0 + new.length) 0 e - (0 + new.length))) e)) (S := Plus S β σ.objs []) (olds := []) (news := news) (ro := []) (rn := new) (e := e) (s := i.size) (z := z) (ver := 0) (cap := grownCap w (0 + new.length) 0 e) (μ := μ) (objs := σ.objs) (ln := []) (ln2 := lnOf σ.objs (val σ y')) hzs rfl (RepOnes.mono (hkal [] _) (fun _ _ x => x) _ _ hn1) (by simp) hlens (grownCap_ge' _ _ _) (b := w.heap.size) (by simpa using heap_alloc_at w.drew _) trivial (LnRel.mono (hkal [] _) (fun _ _ x => x) (LnRel.mono (Keeps.refl _ _) (fun _ _ x => .inl x) hln))
          simpa [lnShift_zero] using this
      · simp at hu
    · -- a table's beginning
      next heq =>
      rw [heq] at hrelx
      obtain ⟨base, hvx⟩ := hrelx
      split at hu
      · next d hdst =>
        obtain rfl := Option.some.inj hu
        obtain ⟨hne, hbytes, hlens⟩ : new ≠ [] ∧ new.length * i.bytes ≤ 35184372088832 ∧ ∀ r ∈ new, r.length = i.size := hs
        obtain ⟨ad, cap, news, hvy, hn0, hn2, hln⟩ := src_links (P := P) h hrows hrely hlens
        have hn1 : RepOnes w (Plus S β σ.objs []) new.flatten news := RepOnes.mono (Keeps.refl _ _) (fun _ _ x => .inl x) _ _ hn0
        have hm : new.length ≠ 0 := fun e => hne (List.length_eq_zero_iff.1 e)
        have hg : 0 < 0 + new.length := by omega
        have hr := append_grow (w := w) (ty := o.type) h0 h1 ht ht' hi hz (base := base) (sLen := 0) (sCap := 0) (olds := #[]) (by
          cases base with
          | none => simp [Builtin.firstCells]
          | some b => simp [Builtin.firstCells, loadCells, loadCellsFrom]) (hn2 w.drew rfl) hg (by have := small _ hbytes; omega) (by simp only [Nat.zero_add]; omega)
        refine does_newT h hdst (hd d hdst) (fz := []) (blk := some w.heap.size) (mu := .slice (some ⟨w.heap.size, 0, none⟩) (0 + new.length) (grownCap w (0 + new.length) 0 e)) (v := .slice (some ⟨w.heap.size, 0, none⟩) (0 + new.length) (grownCap w (0 + new.length) 0 e)) (w' := w.drew.alloc (.cells (#[] ++ news.toArray ++ Builtin.zeroCells z.cells (grownCap w (0 + new.length) 0 e - (0 + new.length))) e)) (hrun ?_) (kept_drew_alloc w _) (fun b hb => (Option.some.inj hb).symm) ?_ ⟨⟨_, _, _, rfl⟩, rfl, rfl⟩
        · rw [hvx, hvy]; exact hr
        · have := grown_tab (w' := w.drew.alloc (.cells (#[] ++ news.toArray ++ Builtin.zeroCells z.cells (grownCap w (0 + new.length) 0 e - (0 + new.length))) e)) (S := Plus S β σ.objs []) (olds := []) (news := news) (ro := []) (rn := new) (e := e) (s := i.size) (z := z) (ver := 0) (cap := grownCap w (0 + new.length) 0 e) (μ := μ) (objs := σ.objs) (ln := []) (ln2 := lnOf σ.objs (val σ y')) hzs rfl (RepOnes.mono (hkal [] _) (fun _ _ x => x) _ _ hn1) (by simp) hlens (grownCap_ge' _ _ _) (b := w.heap.size) (by simpa using heap_alloc_at w.drew _) trivial (LnRel.mono (hkal [] _) (fun _ _ x => x) (LnRel.mono (Keeps.refl _ _) (fun _ _ x => .inl x) hln))
          simpa [lnShift_zero] using this
      · simp at hu
    · -- a table
      next id ver heq =>
      rw [heq] at hrelx
      split at hu
      · next cv s' rows ln hl =>
        split at hu
        · next hcond =>
          simp only [Bool.and_eq_true, Bool.not_eq_true'] at hcond
          obtain ⟨⟨hver, hself⟩, hro⟩ := hcond
          have hver : ver = cv := by simpa using hver
          have hro : id ∉ σ.ro := by simpa using hro
          obtain rfl := Option.some.inj hu
          obtain ⟨hss, hne, hbytes, hlens⟩ : s' = i.size ∧ new ≠ [] ∧ (rows.length + new.length) * i.bytes ≤ 35184372088832 ∧ ∀ r ∈ new, r.length = i.size := hs
          subst hss
          have hvx := (hrelx _ _ _ _ hl).2 hver
          obtain ⟨ad, cap, news, hvy, hn0, hn2, hln⟩ := src_links (P := P) h hrows hrely hlens
          exact append_tab h hd h0 h1 ht ht' hi hpos hbpos hz hzs hrun hne hl hro hvx hvy hn0 hn2 hlens hbytes hln
        · simp at hu
      · simp at hu
    · -- full
      next rows heq =>
      rw [heq] at hrelx
      obtain ⟨hrepx, base, hvx⟩ := hrelx
      rw [hvx] at hrepx
      split at hu
      · next d hdst =>
        obtain rfl := Option.some.inj hu
        obtain ⟨hne, hbytes, hlens1, hlens⟩ : new ≠ [] ∧ (rows.length + new.length) * i.bytes ≤ 35184372088832 ∧ (∀ r ∈ rows, r.length = i.size) ∧ ∀ r ∈ new, r.length = i.size := hs
        obtain ⟨ad, cap, news, hvy, hn0, hn2⟩ := src_cells (P := P) h hrows hrely hlens
        have hn1 : RepOnes w (Plus S β σ.objs []) new.flatten news := RepOnes.mono (Keeps.refl _ _) (fun _ _ x => .inl x) _ _ hn0
        obtain ⟨olds, ho1, ho2⟩ := first_cells (P := P) hrepx hlens1
        have hg : rows.length < rows.length + new.length := by
          have : new.length ≠ 0 := fun e => hne (List.length_eq_zero_iff.1 e)
          omega
        have hr := append_grow (w := w) (ty := o.type) h0 h1 ht ht' hi hz (base := base) (sLen := rows.length) (sCap := rows.length) (ho2 w.drew (fun _ _ _ => rfl)) (hn2 w.drew rfl) hg (small _ hbytes) (by omega)
        refine does_new h hdst (hd d hdst) (fz := []) (blk := some w.heap.size) (mu := _) (v := _) (w' := _) (hrun (by rw [hvx, hvy]; exact hr)) (kept_drew_alloc w _) (fun b hb => (Option.some.inj hb).symm) ?_ (.inr ⟨⟨_, _, rfl⟩, rfl, rfl⟩)
        exact grown_ob hzs (RepOnes.mono ⟨fun b off hS => (hkal [] _).1 b off (.inl hS), (hkal [] _).2⟩ (fun _ _ x => .inl x) _ _ ho1) (RepOnes.mono (hkal [] _) (fun _ _ x => x) _ _ hn1) hlens1 hlens (grownCap_ge' _ _ _) (heap_alloc_at w.drew _)
      · simp at hu
    · -- own
      next id ver heq =>
      rw [heq] at hrelx
      split at hu
      · next cv s' rows hl =>
        split at hu
        · next hcond =>
          simp only [Bool.and_eq_true, Bool.not_eq_true'] at hcond
          obtain ⟨hver, hself⟩ := hcond
          have hver : ver = cv := by simpa using hver
          obtain rfl := Option.some.inj hu
          obtain ⟨hss, hbytes, hlens⟩ : s' = i.size ∧ (rows.length + new.length) * i.bytes ≤ 35184372088832 ∧ ∀ r ∈ new, r.length = i.size := hs
          subst hss
          have hvx := (hrelx _ _ _ hl).2 hver
          obtain ⟨ad, cap, news, hvy, hn0, hn2⟩ := src_cells (P := P) h hrows hrely hlens
          exact append_own none h hd h0 h1 ht ht' hi hpos hbpos hz hzs hrun hl hvx hvy hn0 hn2 hlens hbytes (fun t ht => by cases ht)
        · simp at hu
      · simp at hu
    · -- own, with its type
      next id ver ty heq =>
      rw [heq] at hrelx
      split at hu
      · next cv s' rows hl =>
        split at hu
        · next hcond =>
          simp only [Bool.and_eq_true, Bool.not_eq_true'] at hcond
          obtain ⟨⟨hver, hself⟩, hty⟩ := hcond
          have hty : ty = e := by simpa using hty
          have hver : ver = cv := by simpa using hver
          obtain rfl := Option.some.inj hu
          obtain ⟨hss, hbytes, hlens⟩ : s' = i.size ∧ (rows.length + new.length) * i.bytes ≤ 35184372088832 ∧ ∀ r ∈ new, r.length = i.size := hs
          subst hss
          have hvx := (hrelx.1 _ _ _ hl).2 hver
          obtain ⟨ad, cap, news, hvy, hn0, hn2⟩ := src_cells (P := P) h hrows hrely hlens
          exact append_own (some ty) h hd h0 h1 ht ht' hi hpos hbpos hz hzs hrun hl hvx hvy hn0 hn2 hlens hbytes (fun t ht => by obtain rfl := Option.some.inj ht; exact ⟨hty, hrelx.2⟩)
        · simp at hu
      · simp at hu
    · -- a piece
      next id ver lo hi0 heq =>
      rw [heq] at hrelx
      split at hu
      · next cv s' rows hl =>
        split at hu
        · next hcond =>
          simp only [Bool.and_eq_true, Bool.not_eq_true', beq_iff_eq] at hcond
          obtain ⟨⟨rfl, rfl⟩, hro⟩ := hcond
          have hro : id ∉ σ.ro := by simpa using hro
          obtain ⟨g1, g2, x1, cap0, y1, g3, g4, g5, g6⟩ := (hrelx _ _ _ hl).2 rfl
          obtain rfl := g5 rfl
          simp only [Nat.sub_zero] at g4
          split at hu
          · next hin =>
            split at hu
            · next id2 ver2 lo2 hi2 heqy =>
              split at hu
              · next hid2 =>
                obtain rfl : id2 = id := by simpa using hid2
                obtain rfl := Option.some.inj hu
                obtain ⟨rfl, hle1, hle2⟩ : s' = i.size ∧ hi0 ≤ lo2 ∧ lo2 ≤ hi2 := hs
                rw [heqy] at hrely hrows
                have hver2 : ver2 = ver := by
                  simp only [rowsOf, hl] at hrows
                  split at hrows
                  · next hv => simpa using hv
                  · simp at hrows
                subst hver2
                obtain ⟨q1, q2, _⟩ := (hrely _ _ _ hl).2 rfl
                obtain ⟨ad, cap, news, hvy, hn0, hn2⟩ := view_cells (P := P) h hl hrely
                have hmlen : ((rows.take hi2).drop lo2).length = hi2 - lo2 := by rw [List.length_drop, List.length_take]; omega
                have hlens : ∀ r ∈ (rows.take hi2).drop lo2, r.length = i.size := by
                  intro r hr
                  have hm : r ∈ rows := List.mem_of_mem_take (List.mem_of_mem_drop hr)
                  rcases h.objs id2 _ hl with ⟨z1, _⟩ | ⟨_, _, _, _, _, _, _, _, _, _, _, hlens, _⟩
                  · subst z1; simp at hm
                  · exact hlens r hm
                rcases h.objs id2 _ hl with ⟨hr0, hβ, base, hmu⟩ | ⟨b, cap', us, e0, fr, hβ, hmu, hh, hf, hsz, hle, hlens0, hrep0⟩
                · subst hr0
                  have e1 : hi0 = 0 := by simpa using g2
                  have e2 : hi2 = 0 := by simpa using q2
                  have e3 : lo2 = 0 := by omega
                  subst e1 e2 e3
                  rw [hmu] at g3
                  simp only [Value.slice.injEq] at g3
                  obtain ⟨rfl, _, rfl⟩ := g3
                  refine ⟨_, .slice base 0 0, w, hrun ?_, .inl rfl, S, μ, β, ?_⟩
                  · rw [g4, hvy]
                    exact append_none h0 h1 ht ht' hi
                  · refine SimG.putD (σ := { σ with objs := put σ.objs id2 (.arr ver2 i.size []) }) (put_same h hl) hd ?_
                    intro cv' s' rows' hl'
                    rw [look_put_self] at hl'
                    simp only [Option.some.injEq, Ob.arr.injEq] at hl'
                    obtain ⟨rfl, rfl, rfl⟩ := hl'
                    exact ⟨Nat.le_refl _, fun _ => ⟨Nat.zero_le _, Nat.le_refl _, base, 0, base, hmu, rfl, fun _ => rfl, fun hh => absurd hh (Nat.lt_irrefl _)⟩⟩
                · rw [hmu] at g3
                  simp only [Value.slice.injEq] at g3
                  obtain ⟨rfl, _, rfl⟩ := g3
                  rw [← hmlen] at hn2 hvy
                  obtain ⟨w', r1, r2⟩ := piece_write (P := P) h hl hro hβ hmu hh hf hsz hle hlens0 hrep0 (pos := hi0) (rn := (rows.take hi2).drop lo2) hn0 hlens (by omega)
                  have hr := append_room (w := w) (ty := o.type) h0 h1 ht ht' hi (b := b) (sLen := hi0) (sCap := cap') (hn2 w rfl) (by omega) (by simpa using r1)
                  refine ⟨_, _, w', hrun (by rw [g4, hvy]; exact hr), .inl rfl, S, μ, β, ?_⟩
                  rw [hmlen] at r2 ⊢
                  refine SimG.putD (σ := { σ with objs := put σ.objs id2 (.arr ver2 i.size (rows.take hi0 ++ ((rows.take hi2).drop lo2 ++ rows.drop (hi0 + (hi2 - lo2))))) }) r2 hd ?_
                  intro cv' s' rows' hl'
                  rw [look_put_self] at hl'
                  simp only [Option.some.injEq, Ob.arr.injEq] at hl'
                  obtain ⟨rfl, rfl, rfl⟩ := hl'
                  have hlen' : (rows.take hi0 ++ ((rows.take hi2).drop lo2 ++ rows.drop (hi0 + (hi2 - lo2)))).length = rows.length := by
                    simp only [List.length_append, List.length_take, List.length_drop]; omega
                  exact ⟨Nat.le_refl _, fun _ => ⟨Nat.zero_le _, by omega, _, cap', _, by rw [hlen']; exact hmu, rfl, fun _ => rfl, fun _ => ⟨b, rfl, by simp⟩⟩⟩
              · simp at hu
            · simp at hu
          · next hin =>
            obtain rfl := Option.some.inj hu
            obtain ⟨rfl, hbytes, hlens⟩ : s' = i.size ∧ (hi0 + new.length) * i.bytes ≤ 35184372088832 ∧ ∀ r ∈ new, r.length = i.size := hs
            obtain ⟨ad, cap, news, hvy, hn0, hn2⟩ := src_cells (P := P) h hrows hrely hlens
            have htl : (rows.take hi0).length = hi0 := by rw [List.length_take]; omega
            have hsh : SimG w0 S0 M { σ with objs := put σ.objs id (.arr (ver + 1) i.size (rows.take hi0)) } a w S (fun j => if j = id then a.eval x else μ j) (fun j => if j = id then β id else β j) := by
              refine h.turn hl (β id) (a.eval x) (w' := w) (Keeps.refl _ _) h.kept (Nat.le_refl _) (fun _ _ _ _ _ _ => rfl) (.inr (.inl ⟨ver, i.size, rows, ver + 1, _, rfl, rfl, by omega, fun e => by omega⟩)) ?_ (fun b hb => .inl hb) (fun b off hb hS => absurd (h.unst id _ b off hl hb hS).1 hro)
              rcases h.objs id _ hl with ⟨hr0, hβ, base, hmu⟩ | ⟨b, cap', us, e0, fr, hβ, hmu, hh, hf, hsz, hle, hlens0, hrep0⟩
              · subst hr0
                have e1 : hi0 = 0 := by simpa using g2
                subst e1
                rw [hmu] at g3
                simp only [Value.slice.injEq] at g3
                obtain ⟨rfl, _, rfl⟩ := g3
                exact .inl ⟨by simp, hβ, base, g4⟩
              · rw [hmu] at g3
                simp only [Value.slice.injEq] at g3
                obtain ⟨rfl, _, rfl⟩ := g3
                refine .inr ⟨b, cap', us, e0, fr, hβ, by rw [htl]; exact g4, hh, hf, hsz, by omega, fun r hr => hlens0 r (List.mem_of_mem_take hr), ?_⟩
                rw [htl, flatten_take hlens0]
                have := RepOnes.take (hi0 * i.size) hrep0
                rw [List.take_take, Nat.min_eq_left (Nat.mul_le_mul_right _ g2)] at this
                exact this
            obtain ⟨n, v, w', p1, p2, p3⟩ := append_own none (σ := { σ with objs := put σ.objs id (.arr (ver + 1) i.size (rows.take hi0)) }) hsh hd h0 h1 ht ht' hi hpos hbpos hz hzs hrun (look_put_self _ _ _) (by simp) hvy hn0 hn2 hlens (by rw [htl]; exact hbytes) (fun t ht => by cases ht)
            refine ⟨n, v, w', p1, p2, ?_⟩
            obtain ⟨S', μ', β', hf⟩ := p3
            exact ⟨S', μ', β', hf.drop rfl rfl (fun _ _ _ hi => hi) (fun _ => .inr rfl) (fun j y hj => by
              have e : look (putW (put σ.objs id (.arr (ver + 1) i.size (rows.take hi0))) (some (id, .arr (ver + 1 + 1) i.size (rows.take hi0 ++ new)))) j = look (putW σ.objs (some (id, .arr (ver + 2) i.size (rows.take hi0 ++ new)))) j := by
                simp only [putW, look_put]
                split <;> rfl
              exact e.trans hj)⟩
        · simp at hu
      · simp at hu
    · simp at hu

end
end Go.Vs
set_option linter.unusedVariables false
set_option linter.unusedSimpArgs false
namespace Go.Vs

section
variable {P : Program} {w0 w : World} {S0 S : Stab} {M : Ctx} {σ : St} {a : Act} {μ : Nat → Value} {β : Nat → Option Nat} {o : Oper}

theorem RepOnes.repeat {z : List IV} {vs : List Value} (h : RepOnes w S z vs) : ∀ n, RepOnes w S (List.replicate n z).flatten (repeatL vs n)
  | 0 => by simp [repeatL, RepOnes]
  | n + 1 => by
    rw [List.replicate_succ, List.flatten_cons]
    exact RepOnes.append h (RepOnes.repeat h n)

/-- Rows written over, wherever the handle stands. -/
theorem view_write (h : SimG w0 S0 M σ a w S μ β) {id cv s lo hi : Nat} {rows : List (List IV)} (hl : look σ.objs id = some (.arr cv s rows)) (hro : id ∉ σ.ro) {v : Value} (hr : SVRel w S μ σ.objs (.view id cv lo hi) v)
    {rn : List (List IV)} {news : List Value} (hrn : RepOnes w S rn.flatten news) (hln : ∀ r ∈ rn, r.length = s) (hlen : rn.length ≤ hi - lo) (hpos : 0 < s) :
    ∃ ad cap, v = .slice ad (hi - lo) cap ∧ (rn = [] ∨ ∃ b, ad = some ⟨b, lo * s, none⟩ ∧ ∃ w', (storeCells ⟨b, lo * s, none⟩ news 0).run P w = .ok () w' ∧ SimG w0 S0 M { σ with objs := put σ.objs id (.arr cv s (rows.take lo ++ (rn ++ rows.drop (lo + rn.length)))) } a w' S μ β) := by
  obtain ⟨g1, g2, x1, cap, y1, g3, rfl, g5, g6⟩ := (hr _ _ _ hl).2 rfl
  refine ⟨y1, cap - lo, rfl, ?_⟩
  by_cases hne : rn = []
  · exact .inl hne
  · right
    have hpl : 0 < rn.length := List.length_pos_iff.2 hne
    obtain ⟨b, k1, k2⟩ := g6 (by omega)
    refine ⟨b, k2, ?_⟩
    rcases h.objs id _ hl with ⟨z1, _⟩ | ⟨b', cap', us, e, fr, hβ, hmu, hh, hf, hsz, hle, hlens, hrep⟩
    · subst z1; simp at g2; omega
    · rw [hmu, k1] at g3
      simp only [Value.slice.injEq, Option.some.injEq, Addr.mk.injEq, and_true] at g3
      obtain ⟨rfl, _, rfl⟩ := g3
      exact piece_write h hl hro hβ hmu hh hf hsz hle hlens hrep hrn hln (by omega)

theorem snd_clear (h : SimG w0 S0 M σ a w S μ β) (hd : ∀ d, o.dst = some d → d < σ.n) {c : Call} {t e : TypeId} {x : Operand} {x' : Opd} {zero : List SV} (ho : o.op = .call c) (hb : c.callee = .builtin .clear) (h0 : c.argTypes[0]? = some t)
    (hal : c.args.toList = [x]) (ht : P.underlying t = some (.slice e)) (hx : compOpd x = some x') (hzt : zeroT P e = some zero) {u : Upd} (hu : ev σ o.dst (.clear zero x') = some u) (hs : u.side) :
    Does P o a w (fun v w' => Sim w0 S0 M (σ.apply o.dst u) (a.put o.dst v) w') := by
  have hrel := opd_sound h hx
  obtain ⟨consts, hex⟩ := exec_builtin (a := a) ho hb
  have hargs := toList_one hal
  obtain ⟨i, zv, hinf, hz, hzc⟩ := zeroT_some hzt
  have hrun : ∀ {v : Value} {w' : World}, (Builtin.clear_ c.argTypes o.type #[a.eval x]).run P w = .ok v w' → (execOp a.eval o).run P w = .ok (.value v) w' := by
    intro v w' hr
    rw [hex, hargs]
    simp [builtin, hr]
  simp only [ev] at hu
  split at hu
  · simp at hu
  · next z hzz =>
    have hzr : RepOnes w S z zv.cells.toList := by
      have h1 := constSVs_sound (w := w) (S := S) (μ := μ) (objs := σ.objs) hzc
      rw [allVal_spec hzz] at h1
      exact SVOnes.toRep h1
    have hzl := RepOnes.length hzr
    have main : ∀ {id cv s lo hi : Nat} {rows : List (List IV)}, look σ.objs id = some (.arr cv s rows) → id ∉ σ.ro → SVRel w S μ σ.objs (.view id cv lo hi) (a.eval x) → z.length = s ∧ 0 < s →
        Does P o a w (fun v w' => Sim w0 S0 M ⟨putD σ.env o.dst (.val (.tuple [])), put σ.objs id (.arr cv s (rows.take lo ++ (List.replicate (hi - lo) z ++ rows.drop hi))), σ.ro, σ.n, σ.gl⟩ (a.put o.dst v) w') := by
      intro id cv s lo hi rows hl hro hr ⟨hzs, hpos⟩
      obtain ⟨g1, g2, x1, cap, y1, g3, g4, _⟩ := (hr _ _ _ hl).2 rfl
      by_cases hlt : lo < hi
      · obtain ⟨ad, cap', e1, e2⟩ := view_write (P := P) h hl hro hr (rn := List.replicate (hi - lo) z) (RepOnes.repeat hzr (hi - lo)) (fun r hr' => by rw [List.eq_of_mem_replicate hr']; exact hzs) (by simp) hpos
        rcases e2 with e2 | ⟨b, rfl, w', r1, r2⟩
        · simp only [List.replicate_eq_nil_iff] at e2; omega
        · refine ⟨_, .tuple #[], w', hrun ?_, .inl rfl, S, μ, β, ?_⟩
          · have hzc' : (Builtin.zeroCells zv.cells (hi - lo)).toList = repeatL zv.cells.toList (hi - lo) := by
              have hzs' : zv.cells.size = s := by simpa [hzs] using hzl
              have := toList_range_map zv.cells s hzs' hpos (hi - lo)
              unfold Builtin.zeroCells
              rw [← hzs'] at this
              exact this
            have hne : hi - lo ≠ 0 := by omega
            rw [e1]
            obtain ⟨k, hk⟩ : ∃ k, hi - lo = k + 1 := ⟨hi - lo - 1, by omega⟩
            rw [hk] at hzc' r1 ⊢
            simp only [Builtin.clear_, h0, Sem.run_bind, Sem.run_pure, Result.andThen_ok, run_underlying ht, run_zeroValue hinf hz, List.getElem?_toArray, List.getElem?_cons_zero, hzc']
            simp [r1]
          · rw [List.length_replicate, show lo + (hi - lo) = hi by omega] at r2
            exact SimG.putD (σ := { σ with objs := put σ.objs id (.arr cv s (rows.take lo ++ (List.replicate (hi - lo) z ++ rows.drop hi))) }) r2 hd ⟨#[], rfl, rfl⟩
      · have : hi - lo = 0 := by omega
        have e1 : rows.take lo ++ (List.replicate (hi - lo) z ++ rows.drop hi) = rows := by
          rw [this, show hi = lo by omega]; simp
        rw [e1]
        refine ⟨_, .tuple #[], w, hrun ?_, .inl rfl, S, μ, β, ?_⟩
        · rw [g4, this]
          cases y1 <;> simp [Builtin.clear_, h0, run_underlying ht]
        · exact SimG.putD (σ := { σ with objs := put σ.objs id (.arr cv s rows) }) (put_same h hl) hd ⟨#[], rfl, rfl⟩
    split at hu
    · next heq =>
      obtain rfl := Option.some.inj hu
      rw [heq] at hrel
      obtain ⟨x1, hv⟩ := hrel
      refine does_pure0 h hd (v := .tuple #[]) (hrun ?_) ⟨#[], rfl, rfl⟩
      rw [hv]
      cases x1 <;> simp [Builtin.clear_, h0, run_underlying ht]
    · next id ver heq =>
      rw [heq] at hrel
      split at hu
      · next cv s rows hl =>
        split at hu
        · next hc =>
          simp only [Bool.and_eq_true, Bool.not_eq_true', beq_iff_eq] at hc
          obtain ⟨rfl, hro⟩ := hc
          obtain rfl := Option.some.inj hu
          have := main hl (by simpa using hro) (own_view h hl hrel) hs
          simp only [List.take_zero, List.nil_append, Nat.sub_zero, List.drop_length, List.append_nil] at this
          exact this
        · simp at hu
      · simp at hu
    · next id ver lo hi heq =>
      rw [heq] at hrel
      split at hu
      · next cv s rows hl =>
        split at hu
        · next hc =>
          simp only [Bool.and_eq_true, Bool.not_eq_true', beq_iff_eq] at hc
          obtain ⟨rfl, hro⟩ := hc
          obtain rfl := Option.some.inj hu
          exact main hl (by simpa using hro) hrel hs
        · simp at hu
      · simp at hu
    · simp at hu

/-- Where the rows of a slice stand. -/
theorem src_place (h : SimG w0 S0 M σ a w S μ β) {x : SV} {v : Value} {rows : List (List IV)} {rd : List Nat} (hc : rowsOf σ.objs x = some (rows, rd)) (hr : SVRel w S μ σ.objs x v) :
    ∃ ad cap vs, v = .slice ad rows.length cap ∧ RepOnes w S rows.flatten vs ∧ (rows = [] ∨ ∃ b off, ad = some ⟨b, off, none⟩ ∧ ∀ j u, vs[j]? = some u → w.cell? ⟨b, off + j, none⟩ = some u) := by
  have imm : Rep w S (.slice rows) v → ∃ ad cap vs, v = .slice ad rows.length cap ∧ RepOnes w S rows.flatten vs ∧ (rows = [] ∨ ∃ b off, ad = some ⟨b, off, none⟩ ∧ ∀ j u, vs[j]? = some u → w.cell? ⟨b, off + j, none⟩ = some u) := by
    rintro ⟨ad, cap, rfl, _, hc⟩
    by_cases hne : rows = []
    · subst hne
      exact ⟨ad, cap, [], rfl, rfl, .inl rfl⟩
    · obtain ⟨b, off, s', rfl, hrows⟩ := hc hne
      obtain ⟨vs, h1, h2⟩ := RepCells.vals (RepRows.flat hrows)
      exact ⟨_, cap, vs, rfl, h1, .inr ⟨b, off, rfl, h2⟩⟩
  have piece : ∀ {id cv s' lo hi : Nat} {rows' : List (List IV)}, look σ.objs id = some (.arr cv s' rows') → SVRel w S μ σ.objs (.view id cv lo hi) v → rows = (rows'.take hi).drop lo → ∃ ad cap vs, v = .slice ad rows.length cap ∧ RepOnes w S rows.flatten vs ∧ (rows = [] ∨ ∃ b off, ad = some ⟨b, off, none⟩ ∧ ∀ j u, vs[j]? = some u → w.cell? ⟨b, off + j, none⟩ = some u) := by
    intro id cv s lo hi rows' hl hv hrows
    obtain ⟨g1, g2, x1, cap, y1, g3, rfl, g5, g6⟩ := (hv _ _ _ hl).2 rfl
    have hlen : rows.length = hi - lo := by rw [hrows, List.length_drop, List.length_take]; omega
    rcases Nat.lt_or_ge lo hi with hlt | hge
    · obtain ⟨b, k1, k2⟩ := g6 (by omega)
      rcases h.objs id _ hl with ⟨z1, _⟩ | ⟨b', cap', us, e, fr, hβ, z2, hh, hf, hsz, hle, hlens, hrep⟩
      · subst z1; simp at g2; omega
      · rw [z2, k1] at g3
        simp only [Value.slice.injEq, Option.some.injEq, Addr.mk.injEq, and_true] at g3
        obtain ⟨rfl, _, rfl⟩ := g3
        have hsl : ∀ r ∈ rows'.take hi, r.length = s := fun r hr' => hlens r (List.mem_of_mem_take hr')
        have e1 : rows.flatten = (rows'.flatten.take (hi * s)).drop (lo * s) := by rw [hrows, flatten_drop hsl, flatten_take hlens]
        refine ⟨_, _, ((us.toList.take (rows'.length * s)).take (hi * s)).drop (lo * s), by rw [hlen], ?_, .inr ⟨b', lo * s, k2, fun j u hj => ?_⟩⟩
        · rw [e1]; exact RepOnes.drop _ (RepOnes.take _ hrep)
        · rw [List.getElem?_drop, List.getElem?_take] at hj
          split at hj
          · rw [List.getElem?_take] at hj
            split at hj
            · rw [cell_row hh, ← Array.getElem?_toList]; exact hj
            · simp at hj
          · simp at hj
    · have hnil : rows = [] := List.length_eq_zero_iff.1 (by omega)
      subst hnil
      exact ⟨y1, cap - lo, [], by rw [hlen], rfl, .inl rfl⟩
  unfold rowsOf at hc
  split at hc
  · simp only [Option.some.injEq, Prod.mk.injEq] at hc
    obtain ⟨rfl, rfl⟩ := hc
    obtain ⟨x, rfl⟩ := hr
    exact imm ⟨x, 0, rfl, Nat.le_refl _, fun hn => absurd rfl hn⟩
  · simp only [Option.some.injEq, Prod.mk.injEq] at hc
    obtain ⟨rfl, rfl⟩ := hc
    exact imm hr.1
  · simp only [Option.some.injEq, Prod.mk.injEq] at hc
    obtain ⟨rfl, rfl⟩ := hc
    obtain ⟨x, rfl⟩ := hr
    exact imm ⟨x, 0, rfl, Nat.le_refl _, fun hn => absurd rfl hn⟩
  · next id ver =>
    split at hc
    · next cv s' rows' ln hl =>
      split at hc
      · next hv =>
        simp only [Option.some.injEq, Prod.mk.injEq] at hc
        obtain ⟨rfl, rfl⟩ := hc
        have hv : ver = cv := by simpa using hv
        have hvx := (hr _ _ _ _ hl).2 hv
        rcases h.objs id _ hl with ⟨rfl, rfl, _, x, hx⟩ | ⟨b, cap, us, e, fr, hb, hm, hh, hf, hsz, hle, hlens, hrep, hln⟩
        · rw [hx] at hvx
          exact imm ⟨x, 0, hvx, Nat.le_refl _, fun hn => absurd rfl hn⟩
        refine ⟨_, cap, _, by rw [hvx, hm], hrep, .inr ⟨b, 0, rfl, fun j u hj => ?_⟩⟩
        rw [List.getElem?_take] at hj
        split at hj
        · rw [Nat.zero_add, cell_row hh, ← Array.getElem?_toList]; exact hj
        · simp at hj
      · simp at hc
    · simp at hc
  · simp only [Option.some.injEq, Prod.mk.injEq] at hc
    obtain ⟨rfl, rfl⟩ := hc
    exact imm hr
  · next id ver =>
    split at hc
    · next cv s' rows' hl =>
      split at hc
      · next hv =>
        simp only [Option.some.injEq, Prod.mk.injEq] at hc
        obtain ⟨rfl, rfl⟩ := hc
        obtain rfl : ver = cv := by simpa using hv
        exact piece hl (own_view h hl hr) (by simp)
      · simp at hc
    · simp at hc
  · next id ver lo hi =>
    split at hc
    · next cv s' rows' hl =>
      split at hc
      · next hv =>
        simp only [Option.some.injEq, Prod.mk.injEq] at hc
        obtain ⟨rfl, rfl⟩ := hc
        obtain rfl : ver = cv := by simpa using hv
        exact piece hl hr rfl
      · simp at hc
    · simp at hc
  · simp at hc

theorem snd_copy (h : SimG w0 S0 M σ a w S μ β) (hd : ∀ d, o.dst = some d → d < σ.n) {c : Call} {t e : TypeId} {s : Nat} {x y : Operand} {x' y' : Opd} (ho : o.op = .call c) (hb : c.callee = .builtin .copy) (h0 : c.argTypes[0]? = some t)
    (hal : c.args.toList = [x, y]) (ht : P.underlying t = some (.slice e)) (hx : compOpd x = some x') (hy : compOpd y = some y') (hsz : sizeT P e = some s) {u : Upd} (hu : ev σ o.dst (.copy s x' y') = some u) (hs : u.side) :
    Does P o a w (fun v w' => Sim w0 S0 M (σ.apply o.dst u) (a.put o.dst v) w') := by
  have hrelx := opd_sound h hx
  have hrely := opd_sound h hy
  obtain ⟨consts, hex⟩ := exec_builtin (a := a) ho hb
  have hargs := toList_two hal
  have hrun : ∀ {v : Value} {w' : World}, (Builtin.copy_ c.argTypes o.type #[a.eval x, a.eval y]).run P w = .ok v w' → (execOp a.eval o).run P w = .ok (.value v) w' := by
    intro v w' hr
    rw [hex, hargs]
    simp [builtin, hr]
  simp only [ev] at hu
  split at hu
  · simp at hu
  · next new rd hrows =>
    obtain ⟨ad, cap, vs, hvy, hr1, hr2⟩ := src_place h hrows hrely
    -- the first rows are read
    have first : ∀ n, n ≤ new.length → (∀ r ∈ new, r.length = s) → (Builtin.firstCells s n (.slice ad new.length cap)).run P w = .ok (vs.take (n * s)).toArray w := by
      intro n hn hlens
      have hvl := RepOnes.length hr1
      rw [flatten_length hlens] at hvl
      have hle : n * s ≤ new.length * s := Nat.mul_le_mul_right _ hn
      rcases hr2 with rfl | ⟨b, off, rfl, hcell⟩
      · have : n = 0 := by simpa using hn
        subst this
        cases ad with
        | none => simp [Builtin.firstCells]
        | some b => simp [Builtin.firstCells, loadCells, loadCellsFrom]
      · refine run_firstCells_some (P := P) w s n ⟨b, off, none⟩ new.length cap _ (by rw [List.length_take]; omega) (fun j v hj => ?_)
        rw [add_none]
        rw [List.getElem?_take] at hj
        split at hj
        · exact hcell j v hj
        · simp at hj
    have zero : ∀ {ad0 : Option Addr} {len0 cap0 : Nat}, a.eval x = .slice ad0 len0 cap0 → min new.length len0 = 0 → (Builtin.copy_ c.argTypes o.type #[a.eval x, a.eval y]).run P w = .ok (.int .i64 0) w := by
      intro ad0 len0 cap0 hv hm
      have hf : (Builtin.firstCells s 0 (.slice ad new.length cap)).run P w = .ok #[] w := by
        cases ad with
        | none => simp [Builtin.firstCells]
        | some b => simp [Builtin.firstCells, loadCells, loadCellsFrom]
      have hm' : Nat.min new.length len0 = 0 := hm
      rw [hv, hvy]
      cases ad0 with
      | none => simp [Builtin.copy_, h0, run_underlying ht, Builtin.lenOf, run_sizeT hsz, hm', hf, goInt]
      | some b => simp [Builtin.copy_, h0, run_underlying ht, Builtin.lenOf, run_sizeT hsz, hm', hf, goInt, storeCells]
    have main : ∀ {id cv lo hi : Nat} {rows : List (List IV)}, look σ.objs id = some (.arr cv s rows) → id ∉ σ.ro → SVRel w S μ σ.objs (.view id cv lo hi) (a.eval x) → (∀ r ∈ new, r.length = s) → 0 < s →
        Does P o a w (fun v w' => Sim w0 S0 M ⟨putD σ.env o.dst (.val (.int .i64 (min new.length (hi - lo) : Nat))), put σ.objs id (.arr cv s (rows.take lo ++ (new.take (hi - lo) ++ rows.drop (lo + min new.length (hi - lo))))), σ.ro, σ.n, σ.gl⟩ (a.put o.dst v) w') := by
      intro id cv lo hi rows hl hro hr hlens hpos
      obtain ⟨g1, g2, x1, cap1, y1, g3, g4, _⟩ := (hr _ _ _ hl).2 rfl
      have e1 : new.take (hi - lo) = new.take (min new.length (hi - lo)) := by
        rcases Nat.le_total new.length (hi - lo) with hh | hh
        · rw [Nat.min_eq_left hh, List.take_of_length_le hh, List.take_length]
        · rw [Nat.min_eq_right hh]
      rw [e1]
      have hln : (new.take (min new.length (hi - lo))).length = min new.length (hi - lo) := by rw [List.length_take]; omega
      have hrn : RepOnes w S (new.take (min new.length (hi - lo))).flatten (vs.take (min new.length (hi - lo) * s)) := by
        rw [flatten_take hlens]; exact RepOnes.take _ hr1
      obtain ⟨ad0, cap0, p1, p2⟩ := view_write (P := P) h hl hro hr (rn := new.take (min new.length (hi - lo))) hrn (fun r hr' => hlens r (List.mem_of_mem_take hr')) (by omega) hpos
      rcases p2 with p2 | ⟨b, rfl, w', r1, r2⟩
      · have hz : min new.length (hi - lo) = 0 := by rw [← hln, p2]; rfl
        rw [hz]
        simp only [Nat.add_zero, List.take_zero, List.nil_append, List.take_append_drop]
        exact ⟨_, .int .i64 0, w, hrun (zero p1 hz), .inl rfl, S, μ, β, SimG.putD (σ := { σ with objs := put σ.objs id (.arr cv s rows) }) (put_same h hl) hd rfl⟩
      · rw [hln] at r2
        refine ⟨_, .int .i64 (min new.length (hi - lo) : Nat), w', hrun ?_, .inl rfl, S, μ, β, SimG.putD (σ := { σ with objs := put σ.objs id (.arr cv s (rows.take lo ++ (new.take (min new.length (hi - lo)) ++ rows.drop (lo + min new.length (hi - lo))))) }) r2 hd rfl⟩
        rw [p1, hvy]
        have hf := first (min new.length (hi - lo)) (Nat.min_le_left _ _) hlens
        have hmin : Nat.min new.length (hi - lo) = min new.length (hi - lo) := rfl
        simp [Builtin.copy_, h0, run_underlying ht, Builtin.lenOf, run_sizeT hsz, hmin, hf, goInt, r1]
    split at hu
    · next heq =>
      obtain rfl := Option.some.inj hu
      rw [heq] at hrelx
      obtain ⟨x1, hv⟩ := hrelx
      exact does_pure0 h hd (v := .int .i64 0) (hrun (zero hv (by simp))) rfl
    · next id ver heq =>
      rw [heq] at hrelx
      split at hu
      · next cv s' rows hl =>
        split at hu
        · next hc =>
          simp only [Bool.and_eq_true, Bool.not_eq_true', beq_iff_eq] at hc
          obtain ⟨rfl, hro⟩ := hc
          obtain rfl := Option.some.inj hu
          obtain ⟨rfl, hlens, hpos⟩ : s' = s ∧ (∀ r ∈ new, r.length = s) ∧ 0 < s := hs
          have := main hl (by simpa using hro) (own_view h hl hrelx) hlens hpos
          simp only [List.take_zero, List.nil_append, Nat.sub_zero, Nat.zero_add] at this
          exact this
        · simp at hu
      · simp at hu
    · next id ver lo hi heq =>
      rw [heq] at hrelx
      split at hu
      · next cv s' rows hl =>
        split at hu
        · next hc =>
          simp only [Bool.and_eq_true, Bool.not_eq_true', beq_iff_eq] at hc
          obtain ⟨rfl, hro⟩ := hc
          obtain rfl := Option.some.inj hu
          obtain ⟨rfl, hlens, hpos⟩ : s' = s ∧ (∀ r ∈ new, r.length = s) ∧ 0 < s := hs
          exact main hl (by simpa using hro) hrelx hlens hpos
        · simp at hu
      · simp at hu
    · simp at hu
end
end Go.Vs
set_option linter.unusedVariables false
set_option linter.unusedSimpArgs false
namespace Go.Vs

section
variable {P : Program} {w0 w : World} {S0 S : Stab} {M : Ctx} {σ : St} {a : Act} {μ : Nat → Value} {β : Nat → Option Nat} {o : Oper}

theorem snd_range (h : SimG w0 S0 M σ a w S μ β) (hd : ∀ d, o.dst = some d → d < σ.n) {t : TypeId} {x : Operand} {x' : Opd} (ho : o.op = .range t x) (ht : P.underlying t = some .string) (hx : compOpd x = some x') {u : Upd} (hu : ev σ o.dst (.rangeS x') = some u) :
    Does P o a w (fun v w' => Sim w0 S0 M (σ.apply o.dst u) (a.put o.dst v) w') := by
  have hrel := opd_sound h hx
  simp only [ev] at hu
  split at hu
  · next d s hdst heq =>
    rw [heq] at hrel
    obtain rfl := Option.some.inj hu
    have hs : a.eval x = .string ⟨s.toArray⟩ := hrel
    have hrun : (execOp a.eval o).run P w = .ok (.value (.pointer (some ⟨w.heap.size, 0, none⟩))) (w.alloc (.stringIter ⟨s.toArray⟩ 0)) := by
      have := run_range_string (P := P) w t ⟨s.toArray⟩ ht
      simp only [execOp, ho, hs, Sem.run_bind, this, Result.andThen_ok]
      rfl
    refine ⟨_, _, _, hrun, .inl rfl, Plus S β σ.objs [], (fun id => if id = d then .pointer (some ⟨w.heap.size, 0, none⟩) else μ id), (fun id => if id = d then some w.heap.size else β id), ?_⟩
    rw [hdst]
    have h1 := (h.freeze []).create d (hd d hdst) (.iter (.str s) 0) (some w.heap.size) (.pointer (some ⟨w.heap.size, 0, none⟩)) (w' := w.alloc (.stringIter ⟨s.toArray⟩ 0)) (kept_alloc _ _) (fun b hb => (Option.some.inj hb).symm) ⟨_, rfl, rfl, heap_alloc_at _ _⟩
    refine h1.put (hd d hdst) ?_
    intro s' p' hl
    simp
  · simp at hu

theorem snd_next (h : SimG w0 S0 M σ a w S μ β) (hd : ∀ d, o.dst = some d → d < σ.n) {x : Operand} {x' : Opd} (ho : o.op = .next x true) (hx : compOpd x = some x') {u : Upd} (hu : ev σ o.dst (.nextS x') = some u) :
    Does P o a w (fun v w' => Sim w0 S0 M (σ.apply o.dst u) (a.put o.dst v) w') := by
  have hrel := opd_sound h hx
  simp only [ev] at hu
  split at hu
  · next id heq =>
    rw [heq] at hrel
    split at hu
    · next s p hl =>
      obtain ⟨b, hβ, hmu, hh⟩ := h.objs id _ hl
      have hh : w.heap[b]? = some (.stringIter ⟨s.toArray⟩ p) := hh
      have hv : a.eval x = .pointer (some ⟨b, 0, none⟩) := (hrel (.str s) p hl).trans hmu
      have hsz : (⟨s.toArray⟩ : ByteArray).size = s.length := by simp [ByteArray.size]
      split at hu
      · next hp =>
        obtain rfl := Option.some.inj hu
        obtain ⟨c, k, hck⟩ : ∃ c k, Utf8.decode ⟨s.toArray⟩ p = (c, k) := ⟨_, _, rfl⟩
        have hrun : (execOp a.eval o).run P w = .ok (.value (.tuple #[.bool true, .int .i64 p, .int .i32 c])) { w with heap := w.heap.setIfInBounds b (.stringIter ⟨s.toArray⟩ (p + k)) } := by
          have hp' : p < (⟨s.toArray⟩ : ByteArray).size := by rw [hsz]; exact hp
          simp only [execOp, ho, hv, Instr.next, getObj, setObj, Sem.run_bind, Sem.run, hh, Result.andThen, hp', if_true, hck]
          simp [goInt, Sem.run, hh]
        rw [hck]
        have hbl : b < w.heap.size := ObRel.live hβ (h.objs id _ hl)
        have hS : ∀ b' off, Plus S β σ.objs [] b' off → w.cell? ⟨b', off, none⟩ = ({ w with heap := w.heap.setIfInBounds b (.stringIter ⟨s.toArray⟩ (p + k)) } : World).cell? ⟨b', off, none⟩ := by
          intro b' off hS
          by_cases hb : b' = b
          · subst hb
            have e2 : (w.heap.setIfInBounds b' (.stringIter ⟨s.toArray⟩ (p + k)))[b']? = some (.stringIter ⟨s.toArray⟩ (p + k)) := by simp [hbl]
            simp only [World.cell?, hh, e2]
          · simp [World.cell?, Array.getElem?_setIfInBounds, Ne.symm hb]
        have hoth : ∀ b', b' ≠ b → ({ w with heap := w.heap.setIfInBounds b (.stringIter ⟨s.toArray⟩ (p + k)) } : World).heap[b']? = w.heap[b']? := by
          intro b' hb
          simp [Array.getElem?_setIfInBounds, Ne.symm hb]
        have hshp : ∀ k' x, w.shape? k' = some x → ({ w with heap := w.heap.setIfInBounds b (.stringIter ⟨s.toArray⟩ (p + k)) } : World).shape? k' = some x := by
          intro k' x hx
          by_cases hb : k' = b
          · subst hb
            simp [World.shape?, hh] at hx
          · exact (shape_of_heap (hoth k' hb)).trans hx
        have hf := h.freeze []
        refine ⟨_, _, _, hrun, .inl rfl, Plus S β σ.objs [], μ, β, ?_⟩
        have h2 := hf.turn (w' := { w with heap := w.heap.setIfInBounds b (.stringIter ⟨s.toArray⟩ (p + k)) }) (o' := .iter (.str s) (p + k)) hl (some b) (μ id) ⟨fun b' off hS' => (hS b' off hS').symm, hshp⟩ ⟨h.kept.os, h.kept.tape, h.kept.output, by simpa using h.kept.size, fun j hj hM => by
            refine (hoth j ?_).trans (h.kept.block j hj hM)
            rintro rfl
            rcases h.own id _ _ hl hβ with h5 | h5
            · omega
            · exact hM h5, fun k' x hx => hshp _ _ (h.kept.shape _ _ hx)⟩ (by simp)
          (fun id' y b' hid hl' hb' => hoth b' (fun e => hid (h.inj id' id y _ b' hl' hl hb' (e ▸ hβ)))) (.inr (.inr (.inl ⟨.str s, p, .str s, p + k, rfl, rfl, rfl⟩))) ⟨b, rfl, hmu, by simp [hbl]; rfl⟩ (fun b' hb' => .inl (by rw [hβ]; exact hb'))
          (fun b' off hb' hS' => by
            obtain ⟨g1, g2⟩ := hf.unst id _ b' off hl (by rw [hβ]; exact hb') hS'
            exact ⟨g1, fun ver s rows e => by simp at e⟩)
        have e1 : (fun i => if i = id then μ id else μ i) = μ := by funext i; split <;> simp_all
        have e2 : (fun i => if i = id then some b else β i) = β := by funext i; split <;> simp_all
        rw [e1, e2] at h2
        refine h2.putD hd ?_
        exact ⟨_, rfl, _, _, rfl, rfl, _, _, rfl, rfl, _, _, rfl, rfl, rfl⟩
      · next hp =>
        obtain rfl := Option.some.inj hu
        have hrun : (execOp a.eval o).run P w = .ok (.value (.tuple #[.bool false])) w := by
          have hp' : ¬ p < (⟨s.toArray⟩ : ByteArray).size := by rw [hsz]; exact hp
          simp [execOp, ho, hv, Instr.next, getObj, Sem.run, hh, hp']
        refine ⟨_, _, _, hrun, .inl rfl, S, μ, β, ?_⟩
        refine SimG.putD h hd ?_
        exact ⟨_, rfl, _, _, rfl, rfl, rfl⟩
    · simp at hu
  · simp at hu

theorem bytesOf_some : ∀ {rows : List (List IV)} {bs : List UInt8}, bytesOf rows = some bs → ∃ ns : List Int, rows = ns.map (fun n => [.int .u8 n]) ∧ bs = ns.map (fun n => UInt8.ofNat n.toNat)
  | [], bs, h => by simp only [bytesOf, Option.some.injEq] at h; exact ⟨[], rfl, h.symm⟩
  | r :: rs, bs, h => by
    unfold bytesOf at h
    split at h
    · simp at *
    · next n r' heq =>
      simp only [List.cons.injEq] at heq
      obtain ⟨rfl, rfl⟩ := heq
      simp only [Option.map_eq_some_iff] at h
      obtain ⟨l, h1, rfl⟩ := h
      obtain ⟨ns, rfl, rfl⟩ := bytesOf_some h1
      exact ⟨n :: ns, rfl, rfl⟩
    · simp at h
theorem ones_ints : ∀ {ns : List Int} {vs : List Value}, RepOnes w S (ns.map (fun n => [IV.int .u8 n])).flatten vs → vs = ns.map (Value.int .u8)
  | [], vs, h => h
  | n :: ns, vs, ⟨v, vs', h1, _, h2, h3⟩ => by
    subst h1
    have h2 : v = .int .u8 n := h2
    rw [h2, ones_ints h3]
    rfl

theorem snd_convB (h : SimG w0 S0 M σ a w S μ β) (hd : ∀ d, o.dst = some d → d < σ.n) {s t e : TypeId} {x : Operand} {x' : Opd} (ho : o.op = .convert s t x) (hs : P.underlying s = some (.slice e)) (ht : P.underlying t = some .string) (he : P.underlying e = some (.int .u8)) (hx : compOpd x = some x') {u : Upd} (hu : ev σ o.dst (.convB x') = some u) :
    Does P o a w (fun v w' => Sim w0 S0 M (σ.apply o.dst u) (a.put o.dst v) w') := by
  have hrel := opd_sound h hx
  simp only [ev] at hu
  split at hu
  · next rows rd hrows =>
    split at hu
    · next bs hbs =>
      obtain rfl := Option.some.inj hu
      obtain ⟨ns, rfl, rfl⟩ := bytesOf_some hbs
      obtain ⟨ad, cap, vs, hv, hn0, hn2⟩ := src_cells (P := P) h hrows hrel (s := 1) (by intro r hr; simp at hr; obtain ⟨n, _, rfl⟩ := hr; rfl)
      have hvs := ones_ints hn0
      subst hvs
      have hrun : (execOp a.eval o).run P w = .ok (.value (.string ⟨(ns.map (fun n => UInt8.ofNat n.toNat)).toArray⟩)) w := by
        have hc : (convert s t (a.eval x)).run P w = .ok (.string ⟨(ns.map (fun n => UInt8.ofNat n.toNat)).toArray⟩) w := by
          rw [hv]
          cases ad with
          | none =>
            have hl := hn2 w rfl
            simp [Builtin.firstCells] at hl
            simp only [List.length_map] at *
            subst hl
            simp [convert, run_underlying hs, run_underlying ht, run_underlying he, Conv.bytesToString, ByteArray.empty, ByteArray.emptyWithCapacity]
            try rfl
          | some ad =>
            have hl := hn2 w rfl
            simp only [Builtin.firstCells, Nat.mul_one] at hl
            rw [run_convert_bytes_string w s t e _ _ cap hs he ht, run_bytesToString w _ _ cap ns hl, foldl_push_bytes]
            simp [ByteArray.empty, ByteArray.emptyWithCapacity]
            try rfl
        simp only [execOp, ho, Sem.run_bind, hc, Result.andThen_ok]
        rfl
      refine ⟨_, _, _, hrun, .inl rfl, S, μ, β, ?_⟩
      exact SimG.putD h hd rfl
    · simp at hu
  · simp at hu

theorem snd_convR (h : SimG w0 S0 M σ a w S μ β) (hd : ∀ d, o.dst = some d → d < σ.n) {s t : TypeId} {k : IntKind} {x : Operand} {x' : Opd} (ho : o.op = .convert s t x) (hs : P.underlying s = some (.int k)) (ht : P.underlying t = some .string) (hx : compOpd x = some x') {u : Upd} (hu : ev σ o.dst (.convR x') = some u) :
    Does P o a w (fun v w' => Sim w0 S0 M (σ.apply o.dst u) (a.put o.dst v) w') := by
  have hrel := opd_sound h hx
  simp only [ev] at hu
  split at hu
  · next k' n heq =>
    rw [heq] at hrel
    obtain rfl := Option.some.inj hu
    have hv : a.eval x = .int k' n := hrel
    refine does_pure0 h hd (v := .string (Utf8.encode n)) ?_ ?_
    · simp [execOp, ho, hv, convert, run_underlying hs, run_underlying ht, Conv.intToString]
    · show _ = _
      simp
  · simp at hu

theorem ones_bytes (bs : List UInt8) : RepOnes w S (byteRows bs).flatten (bs.map fun b => Value.int .u8 b.toNat) := by
  induction bs with
  | nil => rfl
  | cons b r ih => exact ⟨_, _, rfl, rfl, rfl, ih⟩

theorem snd_appendS (h : SimG w0 S0 M σ a w S μ β) (hd : ∀ d, o.dst = some d → d < σ.n) {c : Call} {t t' e : TypeId} {i : TypeInfo} {x y : Operand} {x' y' : Opd} (ho : o.op = .call c) (hb : c.callee = .builtin .append) (h0 : c.argTypes[0]? = some t) (h1 : c.argTypes[1]? = some t')
    (hal : c.args.toList = [x, y]) (ht : P.underlying t = some (.slice e)) (ht' : P.underlying t' = some .string) (hi : P.info? e = some i) (hok : i.size = 1 ∧ 0 < i.bytes ∧ i.zero.any (fun z => z.cells.size == i.size) = true)
    (hx : compOpd x = some x') (hy : compOpd y = some y') {u : Upd} (hu : ev σ o.dst (.appendS e i.bytes x' y') = some u) (hs : u.side) :
    Does P o a w (fun v w' => Sim w0 S0 M (σ.apply o.dst u) (a.put o.dst v) w') := by
  have hrelx := opd_sound h hx
  have hrely := opd_sound h hy
  obtain ⟨hone, hbpos, hzero⟩ := hok
  obtain ⟨z, hz, hzs⟩ : ∃ z, i.zero = some z ∧ z.cells.size = i.size := by
    cases hzz : i.zero with
    | none => rw [hzz] at hzero; simp at hzero
    | some z => rw [hzz] at hzero; exact ⟨z, rfl, by simpa using hzero⟩
  obtain ⟨consts, hex⟩ := exec_builtin (a := a) ho hb
  have hargs := toList_two hal
  have hrun : ∀ {v : Value} {w' : World}, (Builtin.append_ c.argTypes o.type #[a.eval x, a.eval y]).run P w = .ok v w' → (execOp a.eval o).run P w = .ok (.value v) w' := by
    intro v w' hr
    rw [hex, hargs]
    simp [builtin, hr]
  simp only [ev] at hu
  split at hu
  · next bs heqy =>
    rw [heqy] at hrely
    have hvy : a.eval y = .string ⟨bs.toArray⟩ := hrely
    split at hu
    · next id ver heqx =>
      rw [heqx] at hrelx
      split at hu
      · next cv s' rows hl =>
        split at hu
        · next hver =>
          obtain rfl := Option.some.inj hu
          obtain ⟨hs', hbytes⟩ : s' = 1 ∧ (rows.length + bs.length) * i.bytes ≤ 35184372088832 := hs
          subst hs'
          have hv : ver = cv := by simpa using hver
          have hvx := (hrelx _ _ _ hl).2 hv
          have hlb : (byteRows bs).length = bs.length := by simp [byteRows]
          rw [← hone] at hl
          have := append_own' none (P := P) (o := o) (ats := c.argTypes) (ty := o.type) (new := byteRows bs) (e' := e) h hd h0 h1 ht (.inr ht') hi (by omega) hbpos hz hzs hrun hl hvx (fun w' => by rw [hvy, hlb]; simp [Builtin.lenOf, ByteArray.size]) (ones_bytes bs)
            (fun w' _ => by
              rw [hvy, hlb]
              have e1 := Lib.run_firstCells_string (P := P) (w := w') i.size ⟨bs.toArray⟩
              have e2 : (⟨bs.toArray⟩ : ByteArray).size = bs.length := by simp [ByteArray.size]
              rw [e2] at e1
              rw [e1]
              simp [Lib.strCells]) (by intro r hr; simp [byteRows] at hr; obtain ⟨b, _, rfl⟩ := hr; simp [hone]) (by rw [hlb]; exact hbytes) (fun t ht => by cases ht)
          rw [hone] at this
          exact this
        · simp at hu
      · simp at hu
    · next id ver ty heqx =>
      rw [heqx] at hrelx
      split at hu
      · next cv s' rows hl =>
        split at hu
        · next hcond =>
          simp only [Bool.and_eq_true] at hcond
          obtain ⟨hver, hty⟩ := hcond
          have hty : ty = e := by simpa using hty
          obtain rfl := Option.some.inj hu
          obtain ⟨hs', hbytes⟩ : s' = 1 ∧ (rows.length + bs.length) * i.bytes ≤ 35184372088832 := hs
          subst hs'
          have hv : ver = cv := by simpa using hver
          have hvx := (hrelx.1 _ _ _ hl).2 hv
          have hlb : (byteRows bs).length = bs.length := by simp [byteRows]
          rw [← hone] at hl
          have := append_own' (some ty) (P := P) (o := o) (ats := c.argTypes) (ty := o.type) (new := byteRows bs) (e' := e) h hd h0 h1 ht (.inr ht') hi (by omega) hbpos hz hzs hrun hl hvx (fun w' => by rw [hvy, hlb]; simp [Builtin.lenOf, ByteArray.size]) (ones_bytes bs)
            (fun w' _ => by
              rw [hvy, hlb]
              have e1 := Lib.run_firstCells_string (P := P) (w := w') i.size ⟨bs.toArray⟩
              have e2 : (⟨bs.toArray⟩ : ByteArray).size = bs.length := by simp [ByteArray.size]
              rw [e2] at e1
              rw [e1]
              simp [Lib.strCells]) (by intro r hr; simp [byteRows] at hr; obtain ⟨b, _, rfl⟩ := hr; simp [hone]) (by rw [hlb]; exact hbytes) (fun t ht => by obtain rfl := Option.some.inj ht; exact ⟨hty, hrelx.2⟩)
          rw [hone] at this
          exact this
        · simp at hu
      · simp at hu
    · simp at hu
  · simp at hu

theorem run_eqPP (d : Nat) {t e : TypeId} (ht : P.underlying t = some (.pointer e)) (hi : (P.info? e).isSome = true) (p : Addr) : (Op.equalIn (d + 1) t (.pointer (some p)) (.pointer (some p))).run P w = .ok true w := by
  obtain ⟨ei, hei⟩ := Option.isSome_iff_exists.1 hi
  by_cases hz : ei.size = 0
  · simp [Op.equalIn, run_underlying ht, sizeOf, typeInfo, hei, hz]
  · simp [Op.equalIn, run_underlying ht, sizeOf, typeInfo, hei, hz, run_sameAddr_same]
theorem snd_eqL (h : SimG w0 S0 M σ a w S μ β) (hd : ∀ d, o.dst = some d → d < σ.n) {op : BinOp} {t t' e : TypeId} {x y : Operand} {x' y' : Opd} (ho : o.op = .binOp op t x y t') (hop : op = .eql ∨ op = .neq) (hx : compOpd x = some x') (hy : compOpd y = some y')
    (ht : P.underlying t = some (.pointer e)) (hi : (P.info? e).isSome = true) {u : Upd} (hu : ev σ o.dst (.eqL (op == .neq) x' y') = some u) :
    Does P o a w (fun v w' => Sim w0 S0 M (σ.apply o.dst u) (a.put o.dst v) w') := by
  have hrelx := opd_sound h hx
  have hrely := opd_sound h hy
  simp only [ev] at hu
  split at hu
  · next id off id' off' heqx heqy =>
    rw [heqx] at hrelx
    rw [heqy] at hrely
    split at hu
    · next cells hl =>
      split at hu
      · next hc =>
        simp only [Bool.and_eq_true, beq_iff_eq] at hc
        obtain ⟨rfl, rfl⟩ := hc
        obtain rfl := Option.some.inj hu
        obtain ⟨b, h1, h2⟩ := hrelx _ hl
        obtain ⟨b', h3, h4⟩ := hrely _ hl
        obtain rfl : b = b' := by rw [h1] at h3; simpa using h3
        have he : (Op.equalIn 10000 t (.pointer (some ⟨b, off, none⟩)) (.pointer (some ⟨b, off, none⟩))).run P w = .ok true w := run_eqPP 9999 ht hi _
        have := snd_eqG h hd ho hop h2 h4 (eqGuard_val (by simp) (by simp)) he rfl rfl
        rcases hop with rfl | rfl <;> simpa using this
      · simp at hu
    · simp at hu
  · simp at hu
end
end Go.Vs
set_option linter.unusedVariables false
set_option linter.unusedSimpArgs false
namespace Go.Vs

theorem plnL_append : ∀ {ks rs : List LK} {xs : List IV}, plnL (ks ++ rs) xs = true → plnL ks (xs.take ks.length) = true ∧ plnL rs (xs.drop ks.length) = true
  | [], _, _, h => ⟨by simp [plnL], h⟩
  | _ :: _, _, [], h => by simp [plnL] at h
  | k :: ks, rs, x :: xs, h => by
    simp only [List.cons_append, plnL, Bool.and_eq_true] at h
    obtain ⟨h1, h2⟩ := plnL_append h.2
    simp [plnL, h.1, h1, h2]
theorem plnL_length : ∀ {ks : List LK} {xs : List IV}, plnL ks xs = true → xs.length = ks.length
  | [], [], _ => rfl
  | [], _ :: _, h => by simp [plnL] at h
  | _ :: _, [], h => by simp [plnL] at h
  | _ :: _, _ :: _, h => by
    simp only [plnL, Bool.and_eq_true] at h
    simp [plnL_length h.2]
theorem eqL_pln : ∀ {ks : List LK} {xs ys : List IV} {b : Bool}, eqL ks xs ys = some b → plnL ks ys = true
  | [], [], [], _, _ => rfl
  | [], [], _ :: _, _, h => by simp [eqL] at h
  | [], _ :: _, _, _, h => by simp [eqL] at h
  | _ :: _, [], _, _, h => by simp [eqL] at h
  | _ :: _, _ :: _, [], _, h => by simp [eqL] at h
  | k :: ks, x :: xs, y :: ys, b, h => by
    simp only [eqL] at h
    split at h
    · next c d h1 h2 =>
      simp only [plnL, eqL_pln h2, Bool.and_true]
      unfold eqC at h1
      split at h1 <;> first | rfl | simp at h1
    · simp at h
theorem plnK_rep {w : World} {S : Stab} {k : LK} {x : IV} {v : Value} (h : plnK k x = true) (hr : Rep w S x v) : v = x.pln := by
  unfold plnK at h
  split at h <;> first | exact hr | simp at h
theorem plnK_self {w : World} {S : Stab} {k : LK} {x : IV} (h : plnK k x = true) : x.one = true ∧ Rep w S x x.pln := by
  unfold plnK at h
  split at h <;> first | exact ⟨rfl, rfl⟩ | simp at h
theorem pln_ones {w : World} {S : Stab} : ∀ {ks : List LK} {xs : List IV} {us : List Value}, plnL ks xs = true → RepOnes w S xs us → us = xs.map IV.pln
  | [], [], _, _, h => h
  | [], _ :: _, _, h, _ => by simp [plnL] at h
  | _ :: _, [], _, h, _ => by simp [plnL] at h
  | _ :: _, _ :: _, _, h, ⟨u, us, h1, _, h2, h3⟩ => by
    simp only [plnL, Bool.and_eq_true] at h
    subst h1
    simp only [List.map_cons, ← plnK_rep h.1 h2, ← pln_ones h.2 h3]
theorem ones_pln {w : World} {S : Stab} : ∀ {ks : List LK} {xs : List IV}, plnL ks xs = true → RepOnes w S xs (xs.map IV.pln)
  | [], [], _ => rfl
  | [], _ :: _, h => by simp [plnL] at h
  | _ :: _, [], h => by simp [plnL] at h
  | _ :: _, x :: xs, h => by
    simp only [plnL, Bool.and_eq_true] at h
    obtain ⟨h1, h2⟩ := plnK_self (w := w) (S := S) h.1
    exact ⟨_, _, rfl, h1, h2, ones_pln h.2⟩

section
variable {P : Program} {w : World} {S : Stab}

/-- The part at an offset, as a key, of a type whose cells are plain. -/
def PartCk (P : Program) (w : World) (S : Stab) (em : Bool) (d : Nat) (t : TypeId) (ks : List LK) : Prop :=
  ∀ (e : Nat) (xs : List IV) (us : Array Value) (off : Nat), RepOnes w S xs us.toList → plnL ks ((xs.drop off).take ks.length) = true →
    ∃ u, (part t us off).run P w = .ok u w ∧ (Instr.checkKey em (d + e) t u).run P w = .ok () w

theorem ckFields {em : Bool} {d : Nat} (hd : ∀ t ks, leaves P d t = some ks → PartCk P w S em d t ks) : ∀ (fs : List Field) (off : Nat) (ks : List LK), leavesFields (leaves P d) off fs = some ks →
    ∀ (e : Nat) (xs : List IV) (us : Array Value), RepOnes w S xs us.toList → plnL ks (xs.drop off) = true →
    (forIn fs PUnit.unit (fun f (_ : PUnit) => do
      if f.name ≠ "_" then
        Instr.checkKey em (d + e) f.type (← part f.type us f.offset)
        pure (ForInStep.yield PUnit.unit)
      else pure (ForInStep.yield PUnit.unit) : Field → PUnit → Sem (ForInStep PUnit))).run P w = .ok PUnit.unit w
  | [], _, _, _, _, _, _, _, _ => by simp
  | f :: fs, off, ks, hk, e, xs, us, hx, hp => by
    simp only [leavesFields] at hk
    split at hk
    · simp at hk
    · next hn =>
      split at hk
      · simp at hk
      · next ho =>
        have ho : f.offset = off := by simpa using ho
        split at hk
        · next k1 h1 =>
          split at hk
          · next k2 h2 =>
            simp only [Option.some.injEq] at hk
            subst hk
            obtain ⟨e1, e2⟩ := plnL_append hp
            obtain ⟨u, r1, r2⟩ := hd _ _ h1 e xs us off hx e1
            have ih := ckFields hd fs (off + k1.length) k2 h2 e xs us hx (by simpa [List.drop_drop] using e2)
            simp only [List.forIn_cons, Sem.run_bind, hn, ne_eq, not_false_eq_true, if_true, ho, r1, r2, Result.andThen_ok, Sem.run_pure]
            exact ih
          · simp at hk
        · simp at hk

theorem leaf_ck {d : TypeDesc} {t : TypeId} {k : LK} (hu : P.underlying t = some d) (hd : isAggD d = false) {xs : List IV} {us : Array Value} {off : Nat}
    (hx : RepOnes w S xs us.toList) (hp : plnL [k] ((xs.drop off).take 1) = true) :
    ∃ x, plnK k x = true ∧ (part t us off).run P w = .ok x.pln w := by
  cases hxs : xs.drop off with
  | nil => rw [hxs] at hp; simp [plnL] at hp
  | cons x xr =>
    have h1 : xs[off]? = some x := by have := congrArg (·[0]?) hxs; simpa using this
    obtain ⟨u, hu1, _, hu2⟩ := RepOnes.get hx h1
    rw [hxs] at hp
    simp only [List.take_succ_cons, List.take_zero, plnL, Bool.and_true] at hp
    refine ⟨x, hp, ?_⟩
    rw [← plnK_rep hp hu2]
    exact run_part_one hu hd us off (by simpa using hu1)

theorem leaves_ck (em : Bool) : ∀ (d : Nat) (t : TypeId) (ks : List LK), leaves P d t = some ks → PartCk P w S em d t ks
  | 0, t, ks, h => by simp [leaves] at h
  | d + 1, t, ks, h => by
    intro e xs us off hx hb
    simp only [leaves] at h
    split at h
    · next hu =>
      split at h
      · simp only [Option.some.injEq] at h
        subst h
        obtain ⟨x, h1, h2⟩ := leaf_ck hu rfl hx hb
        refine ⟨_, h2, ?_⟩
        rw [show d + 1 + e = (d + e) + 1 by omega]
        cases x <;> simp [plnK] at h1
        simp [Instr.checkKey, run_underlying hu, IV.pln]
      · simp at h
    · next k0 hu =>
      split at h
      · simp only [Option.some.injEq] at h
        subst h
        obtain ⟨x, h1, h2⟩ := leaf_ck hu rfl hx hb
        refine ⟨_, h2, ?_⟩
        rw [show d + 1 + e = (d + e) + 1 by omega]
        cases x <;> simp [plnK] at h1
        simp [Instr.checkKey, run_underlying hu, IV.pln]
      · simp at h
    · next hu =>
      split at h
      · simp only [Option.some.injEq] at h
        subst h
        obtain ⟨x, h1, h2⟩ := leaf_ck hu rfl hx hb
        refine ⟨_, h2, ?_⟩
        rw [show d + 1 + e = (d + e) + 1 by omega]
        cases x <;> simp [plnK] at h1
        simp [Instr.checkKey, run_underlying hu, IV.pln]
      · simp at h
    · next fs hu =>
      split at h
      · simp at h
      · next hst =>
        split at h
        · next k1 hk =>
          split at h
          · next hsz =>
            simp only [Option.some.injEq] at h
            subst h
            refine ⟨_, run_part_agg hu rfl hsz us off, ?_⟩
            rw [show d + 1 + e = (d + e) + 1 by omega]
            unfold Instr.checkKey
            simp only [Sem.run_bind, run_underlying hu, Result.andThen_ok]
            rw [← Array.forIn_toList]
            rw [ckFields (leaves_ck em d) fs.toList 0 k1 hk e _ _ (hx.extract off _) (by simpa using hb)]
            rfl
          · simp at h
        · simp at h
    · simp at h

/-- A whole key. -/
theorem key_ck {t : TypeId} {fs : Array Field} (hu : P.underlying t = some (.struct fs)) {ks : List LK} (hk : leaves P 10 t = some ks) {xs : List IV} {us : Array Value} (hx : RepOnes w S xs us.toList) (hp : plnL ks xs = true) (em : Bool) :
    (Instr.checkKey em 10000 t (.agg us)).run P w = .ok () w := by
  cases hst : P.stoodInHeld t with
  | true => simp [leaves, hu, hst] at hk
  | false =>
    simp only [leaves, hu, hst, Bool.false_eq_true, if_false] at hk
    split at hk
    · next k1 hk1 =>
      split at hk
      · obtain rfl := Option.some.inj hk
        rw [show (10000 : Nat) = 9999 + 1 from rfl]
        unfold Instr.checkKey
        simp only [Sem.run_bind, run_underlying hu, Result.andThen_ok]
        rw [← Array.forIn_toList]
        rw [ckFields (leaves_ck em 9) fs.toList 0 k1 hk1 9990 _ _ hx (by simpa using hp)]
        rfl
      · simp at hk
    · simp at hk
/-- Two keys. -/
theorem key_eq {t : TypeId} {fs : Array Field} (ht : P.underlying t = some (.struct fs)) {ks : List LK} (hk : leaves P 10 t = some ks) {xs ys : List IV} {us vs : Array Value} (hx : RepOnes w S xs us.toList) (hy : RepOnes w S ys vs.toList) {b : Bool} (hb : eqL ks xs ys = some b) :
    (Op.equal t (.agg us) (.agg vs)).run P w = .ok b w := by
  cases hst : P.stoodInHeld t with
  | true => simp [leaves, ht, hst] at hk
  | false =>
    simp only [leaves, ht, hst, Bool.false_eq_true, if_false] at hk
    split at hk
    · next k1 hk1 =>
      split at hk
      · obtain rfl := Option.some.inj hk
        have hf : P.underlying t = some (.struct (P.fieldsOf t)) := by simp [Program.fieldsOf, ht]
        have hfs : P.fieldsOf t = fs := by simp [Program.fieldsOf, ht]
        have e1 := run_equalIn_struct (P := P) w 9999 t us vs hf hst
        rw [hfs] at e1
        exact e1.trans (eqFields_run (d := 9) (leaves_sound 9) fs.toList 0 k1 hk1 9990 xs ys us vs b hx hy (by simpa using hb))
      · simp at hk
    · simp at hk

theorem find_run {t : TypeId} {fs : Array Field} (ht : P.underlying t = some (.struct fs)) {ks : List LK} (hk : leaves P 10 t = some ks) {kc : List IV} {us : Array Value} (hx : RepOnes w S kc us.toList) :
    ∀ (es : List (List IV × IV)) (n i : Nat) (r : Option IV), mapFind ks kc es = some r → ∃ z, (Instr.findAsking t (.agg us) (entsV es n) i).run P w = .ok z w ∧ (r = none → z = none) ∧ ∀ v, r = some v → ∃ j, z = some (j, v.pln)
  | [], n, i, r, h => by
    simp only [mapFind, Option.some.injEq] at h
    subst h
    exact ⟨none, by simp [entsV, Instr.findAsking], fun _ => rfl, by simp⟩
  | (k, v) :: es, n, i, r, h => by
    simp only [mapFind] at h
    split at h
    · next he =>
      obtain rfl := Option.some.inj h
      have := key_eq ht hk hx (ys := k) (vs := (k.map IV.pln).toArray) (by simpa using ones_pln (eqL_pln he)) he
      exact ⟨some (i, v.pln), by simp [entsV, Instr.findAsking, this], by simp, fun v' hv => by obtain rfl := Option.some.inj hv; exact ⟨i, rfl⟩⟩
    · next he =>
      have := key_eq ht hk hx (ys := k) (vs := (k.map IV.pln).toArray) (by simpa using ones_pln (eqL_pln he)) he
      obtain ⟨z, h1, h2⟩ := find_run ht hk hx es (n + 1) (i + 1) r h
      exact ⟨z, by simp [entsV, Instr.findAsking, this, h1], h2⟩
    · simp at h
theorem findKey_run {t : TypeId} {fs : Array Field} (ht : P.underlying t = some (.struct fs)) (x : Value) (es : List MapEntry) : (Instr.findKey t x es).run P w = (Instr.findAsking t x es).run P w := by
  cases es with
  | nil => simp [Instr.findKey, run_underlying ht, Instr.findNow, Instr.findAsking]
  | cons e es => simp [Instr.findKey, run_underlying ht, Instr.findNow, Instr.sameNow]
theorem entsV_append : ∀ (es : List (List IV × IV)) (k : List IV) (v : IV) (n : Nat), entsV (es ++ [(k, v)]) n = entsV es n ++ [⟨.agg (k.map IV.pln).toArray, v.pln, n + es.length⟩]
  | [], _, _, _ => rfl
  | (k', v') :: es, k, v, n => by
    simp only [List.cons_append, entsV, entsV_append es k v (n + 1), List.length_cons]
    rw [show n + 1 + es.length = n + (es.length + 1) by omega]
end

section
variable {P : Program} {w0 w : World} {S0 S : Stab} {M : Ctx} {σ : St} {a : Act} {μ : Nat → Value} {β : Nat → Option Nat} {o : Oper}

theorem snd_mkMap (h : SimG w0 S0 M σ a w S μ β) (hd : ∀ d, o.dst = some d → d < σ.n) {t : TypeId} (ho : o.op = .makeMap t none) {u : Upd} (hu : ev σ o.dst .mkMap = some u) :
    Does P o a w (fun v w' => Sim w0 S0 M (σ.apply o.dst u) (a.put o.dst v) w') := by
  simp only [ev] at hu
  split at hu
  · next d hdst =>
    obtain rfl := Option.some.inj hu
    have hrun : (execOp a.eval o).run P w = .ok (.value (.map (some w.heap.size))) (w.alloc (.map #[] 0)) := by
      simp [execOp, ho, Instr.makeMap]
    refine ⟨_, _, _, hrun, .inl rfl, Plus S β σ.objs [], (fun id => if id = d then .map (some w.heap.size) else μ id), (fun id => if id = d then some w.heap.size else β id), ?_⟩
    rw [hdst]
    have h1 := (h.freeze []).create d (hd d hdst) (.iter (.map []) 0) (some w.heap.size) (.map (some w.heap.size)) (w' := w.alloc (.map #[] 0)) (kept_alloc _ _) (fun b hb => (Option.some.inj hb).symm) ⟨_, rfl, rfl, heap_alloc_at _ _⟩
    refine h1.put (hd d hdst) ?_
    intro s' p' hl
    simp
  · simp at hu

theorem snd_mapGet (h : SimG w0 S0 M σ a w S μ β) (hd : ∀ d, o.dst = some d → d < σ.n) {t kt vt : TypeId} {fs : Array Field} {m k : Operand} {m' k' : Opd} {ks : List LK} (ho : o.op = .lookup t m k false) (ht : P.underlying t = some (.map kt vt)) (hkt : P.underlying kt = some (.struct fs)) (hks : leaves P 10 kt = some ks)
    (hm : compOpd m = some m') (hk : compOpd k = some k') {u : Upd} (hu : ev σ o.dst (.mapGet ks m' k') = some u) :
    Does P o a w (fun v w' => Sim w0 S0 M (σ.apply o.dst u) (a.put o.dst v) w') := by
  have hrelm := opd_sound h hm
  have hrelk := opd_sound h hk
  simp only [ev] at hu
  split at hu
  · next id kc heqm heqk =>
    rw [heqm] at hrelm
    rw [heqk] at hrelk
    split at hu
    · next es p hl =>
      split at hu
      · next kk n hf =>
        split at hu
        · next hp =>
          obtain rfl := Option.some.inj hu
          obtain ⟨us, hku, hus⟩ := hrelk
          obtain ⟨b, hβ, hmu, hh⟩ := h.objs id _ hl
          have hh : w.heap[b]? = some (.map (entsV es 0).toArray p) := hh
          have hv : a.eval m = .map (some b) := (hrelm (.map es) p hl).trans hmu
          have hget : (getObj b).run P w = .ok (.map (entsV es 0).toArray p) w := by simp [getObj, Sem.run, hh]
          have hset : ∀ X, (setObj b X).run P w = .ok () { w with heap := w.heap.setIfInBounds b X } := by intro X; simp [setObj, Sem.run, hh]
          obtain ⟨z, z1, _, z2⟩ := find_run (P := P) hkt hks hus es 0 0 _ hf
          obtain ⟨j, rfl⟩ := z2 _ rfl
          refine does_pure0 h hd (v := .int kk n) ?_ rfl
          simp only [execOp, ho, hv, hku, Instr.lookup, Sem.run_bind, run_underlying ht, Result.andThen_ok, hget, Sem.run_pure, key_ck hkt hks hus hp, findKey_run hkt, z1]
          rfl
        · simp at hu
      · simp at hu
    · simp at hu
  · simp at hu

theorem snd_mapSet (h : SimG w0 S0 M σ a w S μ β) (hd : ∀ d, o.dst = some d → d < σ.n) {t kt vt : TypeId} {fs : Array Field} {m k x : Operand} {m' k' x' : Opd} {ks : List LK} (ho : o.op = .mapUpdate t m k x) (ht : P.underlying t = some (.map kt vt)) (hkt : P.underlying kt = some (.struct fs)) (hks : leaves P 10 kt = some ks)
    (hm : compOpd m = some m') (hk : compOpd k = some k') (hx : compOpd x = some x') {u : Upd} (hu : ev σ o.dst (.mapSet ks m' k' x') = some u) :
    Does P o a w (fun v w' => Sim w0 S0 M (σ.apply o.dst u) (a.put o.dst v) w') := by
  have hrelm := opd_sound h hm
  have hrelk := opd_sound h hk
  have hrelx := opd_sound h hx
  simp only [ev] at hu
  split at hu
  · next id kc kk n heqm heqk heqx =>
    rw [heqm] at hrelm
    rw [heqk] at hrelk
    rw [heqx] at hrelx
    split at hu
    · next es p hl =>
      split at hu
      · next hf =>
        split at hu
        · next hc =>
          obtain ⟨hpl, hp⟩ := hc
          obtain rfl := Option.some.inj hu
          obtain ⟨us, hku, hus⟩ := hrelk
          obtain ⟨b, hβ, hmu, hh⟩ := h.objs id _ hl
          have hh : w.heap[b]? = some (.map (entsV es 0).toArray p) := hh
          have hv : a.eval m = .map (some b) := (hrelm (.map es) p hl).trans hmu
          have hget : (getObj b).run P w = .ok (.map (entsV es 0).toArray p) w := by simp [getObj, Sem.run, hh]
          have hset : ∀ X, (setObj b X).run P w = .ok () { w with heap := w.heap.setIfInBounds b X } := by intro X; simp [setObj, Sem.run, hh]
          have hvx : a.eval x = .int kk n := hrelx
          obtain ⟨z, z1, z2, _⟩ := find_run (P := P) hkt hks hus es 0 0 _ hf
          obtain rfl := z2 rfl
          have hue : Value.agg us = .agg (kc.map IV.pln).toArray := by
            have := pln_ones hp hus
            rw [← this]
          have hob : Obj.map ((entsV es 0).toArray.push ⟨.agg us, .int kk n, p⟩) (p + 1) = (ItS.map (es ++ [(kc, .int kk n)])).obj (p + 1) := by
            show _ = Obj.map (entsV (es ++ [(kc, .int kk n)]) 0).toArray (p + 1)
            rw [entsV_append, hue, hpl]
            simp [IV.pln]
          generalize hO : (ItS.map (es ++ [(kc, IV.int kk n)])).obj (p + 1) = O at hob
          have hrun : (execOp a.eval o).run P w = .ok .skip { w with heap := w.heap.setIfInBounds b O } := by
            simp only [execOp, ho, hv, hku, hvx, Instr.mapUpdate, Sem.run_bind, run_underlying ht, Result.andThen_ok, hget, Sem.run_pure, key_ck hkt hks hus hp, findKey_run hkt, z1, hset, hob]
          have hbl : b < w.heap.size := ObRel.live hβ (h.objs id _ hl)
          have hS : ∀ b' off, Plus S β σ.objs [] b' off → w.cell? ⟨b', off, none⟩ = ({ w with heap := w.heap.setIfInBounds b O } : World).cell? ⟨b', off, none⟩ := by
            intro b' off hS
            by_cases hb : b' = b
            · subst hb
              have e2 : (w.heap.setIfInBounds b' O)[b']? = some O := by simp [hbl]
              subst hO
              simp only [World.cell?, hh, e2]
              rfl
            · simp [World.cell?, Array.getElem?_setIfInBounds, Ne.symm hb]
          have hoth : ∀ b', b' ≠ b → ({ w with heap := w.heap.setIfInBounds b O } : World).heap[b']? = w.heap[b']? := by
            intro b' hb
            simp [Array.getElem?_setIfInBounds, Ne.symm hb]
          have hshp : ∀ k' x, w.shape? k' = some x → ({ w with heap := w.heap.setIfInBounds b O } : World).shape? k' = some x := by
            intro k' x hx
            by_cases hb : k' = b
            · subst hb
              simp [World.shape?, hh] at hx
            · exact (shape_of_heap (hoth k' hb)).trans hx
          have hf := h.freeze []
          refine ⟨_, Go.undef, _, hrun, .inr ⟨rfl, rfl⟩, Plus S β σ.objs [], μ, β, ?_⟩
          have h2 := hf.turn (w' := { w with heap := w.heap.setIfInBounds b O }) (o' := .iter (.map (es ++ [(kc, .int kk n)])) (p + 1)) hl (some b) (μ id) ⟨fun b' off hS' => (hS b' off hS').symm, hshp⟩ ⟨h.kept.os, h.kept.tape, h.kept.output, by simpa using h.kept.size, fun j hj hM => by
              refine (hoth j ?_).trans (h.kept.block j hj hM)
              rintro rfl
              rcases h.own id _ _ hl hβ with h5 | h5
              · omega
              · exact hM h5, fun k' x hx => hshp _ _ (h.kept.shape _ _ hx)⟩ (by simp)
            (fun id' y b' hid hl' hb' => hoth b' (fun e => hid (h.inj id' id y _ b' hl' hl hb' (e ▸ hβ)))) (.inr (.inr (.inl ⟨.map es, p, .map (es ++ [(kc, .int kk n)]), p + 1, rfl, rfl, rfl⟩))) ⟨b, rfl, hmu, by simp [hbl]; exact hO.symm⟩ (fun b' hb' => .inl (by rw [hβ]; exact hb'))
            (fun b' off hb' hS' => by
              obtain ⟨g1, g2⟩ := hf.unst id _ b' off hl (by rw [hβ]; exact hb') hS'
              exact ⟨g1, fun ver s rows e => by simp at e⟩)
          have e1 : (fun i => if i = id then μ id else μ i) = μ := by funext i; split <;> simp_all
          have e2 : (fun i => if i = id then some b else β i) = β := by funext i; split <;> simp_all
          rw [e1, e2] at h2
          refine h2.putD hd ?_
          trivial
        · simp at hu
      · simp at hu
    · simp at hu
  · simp at hu

theorem repeat_replicate (zs : List IV) : ∀ n, (List.replicate n zs).flatten = repeatL zs n
  | 0 => rfl
  | n + 1 => by simp [List.replicate_succ, repeatL, repeat_replicate zs n]

theorem snd_appendZ (h : SimG w0 S0 M σ a w S μ β) (hd : ∀ d, o.dst = some d → d < σ.n) {c : Call} {t t' e : TypeId} {k0 : IntKind} {i : TypeInfo} {x y : Operand} {x' y' : Opd} {z : List SV} (ho : o.op = .call c) (hb : c.callee = .builtin .append) (h0 : c.argTypes[0]? = some t) (h1 : c.argTypes[1]? = some t')
    (hal : c.args.toList = [x, y]) (ht : P.underlying t = some (.slice e)) (ht' : P.underlying t' = some (.int k0)) (hi : P.info? e = some i) (hz : zeroT P e = some z) (hok : 0 < i.size ∧ 0 < i.bytes ∧ z.length = i.size)
    (hx : compOpd x = some x') (hy : compOpd y = some y') {u : Upd} (hu : ev σ o.dst (.appendZ i.size i.bytes z x' y') = some u) (hs : u.side) :
    Does P o a w (fun v w' => Sim w0 S0 M (σ.apply o.dst u) (a.put o.dst v) w') := by
  have hrelx := opd_sound h hx
  have hrely := opd_sound h hy
  obtain ⟨hpos, hbpos, hzl⟩ := hok
  obtain ⟨i', zv, g1, g2, g3⟩ := zeroT_some hz
  obtain rfl : i' = i := by rw [hi] at g1; exact (Option.some.inj g1).symm
  obtain ⟨consts, hex⟩ := exec_builtin (a := a) ho hb
  have hargs := toList_two hal
  have hrun : ∀ {v : Value} {w' : World}, (Builtin.append_ c.argTypes o.type #[a.eval x, a.eval y]).run P w = .ok v w' → (execOp a.eval o).run P w = .ok (.value v) w' := by
    intro v w' hr
    rw [hex, hargs]
    simp [builtin, hr]
  simp only [ev] at hu
  split at hu
  · next d kk n zs hdst heqy hav =>
    rw [heqy] at hrely
    have hvy : a.eval y = .int kk n := hrely
    have hzr := constSVs_sound (w := w) (S := S) (μ := μ) (objs := σ.objs) g3
    have hzs : zv.cells.size = i'.size := by have := SVOnes.length hzr; simp at this; omega
    have hzz := allVal_spec hav
    subst hzz
    have hrz : RepOnes w S zs zv.cells.toList := SVOnes.toRep hzr
    have hzsl : zs.length = i'.size := by simpa using hzl
    have main : ∀ (base : Option Addr) (cc : Nat), a.eval x = .slice base 0 cc → (cc : Int) < n → n.toNat * i'.bytes ≤ 35184372088832 →
        Does P o a w (fun v w' => Sim w0 S0 M (σ.apply o.dst { v := .own d 0, new := some (.arr 0 i'.size (List.replicate n.toNat zs)) }) (a.put o.dst v) w') := by
      intro base cc hvx hcn hbytes
      obtain ⟨k, rfl⟩ : ∃ k : Nat, n = k := ⟨n.toNat, by omega⟩
      simp only [Int.toNat_natCast] at hbytes ⊢
      have hk0 : 0 < k := by omega
      have hk63 : k ≤ 35184372088832 := by
        have : k * 1 ≤ k * i'.bytes := Nat.mul_le_mul_left _ hbpos
        omega
      have hf := growslice_fits (need := 0 + k) (old := cc) (bytes := i'.bytes) (by omega) (by simp only [Nat.zero_add]; omega)
      have hfc : (Builtin.firstCells i'.size 0 (.slice base 0 cc)).run P w.drew = .ok #[] w.drew := by
        cases base with
        | none => simp [Builtin.firstCells]
        | some b => simp [Builtin.firstCells, loadCells, loadCellsFrom]
      have hr : (Builtin.append_ c.argTypes o.type #[.slice base 0 cc, .int kk k]).run P w =
          .ok (.slice (some ⟨w.heap.size, 0, none⟩) (0 + k) (grownCap w (0 + k) cc e)) (w.drew.alloc (.cells (#[] ++ (Builtin.zeroCells zv.cells k) ++ Builtin.zeroCells zv.cells (grownCap w (0 + k) cc e - (0 + k))) e)) := by
        have hw : IntKind.i64.wrap (k : Int) = k := by rw [IntKind.wrap_i64]; omega
        have hn : ¬ (0 + k ≤ cc) := by omega
        have hn' : ¬ (k ≤ cc) := by omega
        have h63' : ¬ (9223372036854775807 < (k : Int)) := by omega
        have h48' : ¬ (281474976710656 < Builtin.nextslicecap (0 + k) cc * i'.bytes) := by omega
        have h48'' : ¬ (281474976710656 < Builtin.nextslicecap k cc * i'.bytes) := by simpa using h48'
        have h48i : ¬ (281474976710656 < (k : Int) * (i'.bytes : Int)) := by
          rw [← Int.natCast_mul]
          omega
        have hneg : ¬ ((k : Int) < 0) := by omega
        have hns : ¬ (k * i'.size = 0) := Nat.mul_ne_zero (by omega) (by omega)
        have hk' : k ≠ 0 := by omega
        simp [Builtin.append_, h0, h1, run_underlying ht, run_underlying ht', sizeOf, typeInfo, zeroValue, hi, g2, asInt, asIntOf, hw, hn, hn', hk', hneg, hns, h63', h48', h48'', h48i, Question.forced, hfc, newRow, grownCap]
      have hzc : (Builtin.zeroCells zv.cells k).toList = repeatL zv.cells.toList k := by
        rw [← toList_range_map zv.cells i'.size hzs hpos k]
        simp [Builtin.zeroCells, hzs]
      refine does_new h hdst (hd d hdst) (fz := []) (blk := some w.heap.size) (mu := .slice (some ⟨w.heap.size, 0, none⟩) (0 + k) (grownCap w (0 + k) cc e)) (v := .slice (some ⟨w.heap.size, 0, none⟩) (0 + k) (grownCap w (0 + k) cc e)) (w' := w.drew.alloc (.cells (#[] ++ (Builtin.zeroCells zv.cells k) ++ Builtin.zeroCells zv.cells (grownCap w (0 + k) cc e - (0 + k))) e)) (hrun ?_) (kept_drew_alloc w _) (fun b hb => (Option.some.inj hb).symm) ?_ (.inr ⟨⟨_, _, rfl⟩, rfl, rfl⟩)
      · rw [hvx, hvy]; exact hr
      · have hkal : Keeps S w (w.drew.alloc (.cells (#[] ++ (Builtin.zeroCells zv.cells k) ++ Builtin.zeroCells zv.cells (grownCap w (0 + k) cc e - (0 + k))) e)) := by
          refine ⟨fun b off hS => ?_, (kept_drew_alloc w _).shape⟩
          exact cell_of_heap ((kept_drew_alloc w _).block b (h.stab b off hS) (fun x => x)) off
        have hrepR : ∀ n, RepOnes w S (repeatL zs n) (repeatL zv.cells.toList n) := by
          intro n
          induction n with
          | zero => rfl
          | succ n ih => exact RepOnes.append hrz ih
        have := grown_ob (w' := w.drew.alloc (.cells (#[] ++ (Builtin.zeroCells zv.cells k) ++ Builtin.zeroCells zv.cells (grownCap w (0 + k) cc e - (0 + k))) e)) (S := Plus S β σ.objs []) (olds := []) (news := (Builtin.zeroCells zv.cells k).toList) (ro := []) (rn := List.replicate k zs) (e := e) (s := i'.size) (z := zv) (ver := 0) (cap := grownCap w (0 + k) cc e) (μ := μ) (objs := σ.objs) hzs rfl
          (by rw [repeat_replicate, hzc]; exact RepOnes.mono hkal (fun _ _ x => .inl x) _ _ (hrepR k)) (by simp) (fun r hr => by rw [List.eq_of_mem_replicate hr]; exact hzsl) (by simpa using grownCap_ge' (0 + k) cc e) (b := w.heap.size) (by simpa using heap_alloc_at w.drew _)
        simpa using this
    split at hu
    · next heqx =>
      rw [heqx] at hrelx
      obtain ⟨base, hvx⟩ := hrelx
      obtain rfl := Option.some.inj hu
      obtain ⟨hn, hbytes⟩ : 0 < n ∧ n.toNat * i'.bytes ≤ 35184372088832 := hs
      exact main base 0 hvx (by simpa using hn) hbytes
    · next cc heqx =>
      rw [heqx] at hrelx
      obtain ⟨base, hvx⟩ := hrelx
      obtain rfl := Option.some.inj hu
      obtain ⟨hn, hbytes⟩ : (cc : Int) < n ∧ n.toNat * i'.bytes ≤ 35184372088832 := hs
      exact main base cc hvx hn hbytes
    · simp at hu
  · simp at hu

end
end Go.Vs
set_option linter.unusedVariables false
set_option linter.unusedSimpArgs false
namespace Go.Vs

section
variable {P : Program} {w0 w : World} {S0 S : Stab} {M : Ctx} {σ : St} {a : Act} {μ : Nat → Value} {β : Nat → Option Nat} {o : Oper}

theorem ev_binop (h : SimG w0 S0 M σ a w S μ β) (hd : ∀ d, o.dst = some d → d < σ.n) {op : BinOp} {t t' : TypeId} {x y : Operand} {x' y' : Opd} (ho : o.op = .binOp op t x y t') (hx : compOpd x = some x') (hy : compOpd y = some y')
    {u : Upd} (hu : ev σ o.dst (.bin op x' y') = some u) (hs : u.side) : Does P o a w (fun v w' => Sim w0 S0 M (σ.apply o.dst u) (a.put o.dst v) w') := by
  simp only [ev] at hu
  split at hu
  · next k m k' n h1 h2 =>
    split at hu
    · next hk =>
      subst hk
      exact snd_binI h hd ho hx hy h1 h2 hu hs
    · simp at hu
  · next m n h1 h2 => exact snd_binS h hd ho hx hy h1 h2 hu hs
  · simp at hu

theorem ev_eqNi (h : SimG w0 S0 M σ a w S μ β) (hd : ∀ d, o.dst = some d → d < σ.n) {op : BinOp} {t t' : TypeId} {x : Operand} {x' : Opd} (ho : o.op = .binOp op t x (.const .nilIface) t') (hop : op = .eql ∨ op = .neq) (hx : compOpd x = some x')
    {ms : Array (String × TypeId)} (ht : P.underlying t = some (.interface ms)) {u : Upd} (hu : ev σ o.dst (.eqN (op == .neq) x') = some u) :
    Does P o a w (fun v w' => Sim w0 S0 M (σ.apply o.dst u) (a.put o.dst v) w') := by
  have hrel := opd_sound h hx
  simp only [ev] at hu
  split at hu
  · next heq =>
    rw [heq] at hrel
    obtain rfl := Option.some.inj hu
    have := snd_eqNi h hd ho hop ht (b := true) (.inr ⟨hrel, rfl⟩)
    simpa using this
  · next t1 v1 heq =>
    rw [heq] at hrel
    obtain rfl := Option.some.inj hu
    obtain ⟨v2, h2, _⟩ := hrel
    have := snd_eqNi h hd ho hop ht (b := false) (.inl ⟨t1, v2, h2, rfl⟩)
    simpa using this
  · next t1 v1 heq =>
    rw [heq] at hrel
    obtain rfl := Option.some.inj hu
    obtain ⟨v2, h2, _⟩ := hrel
    have := snd_eqNi h hd ho hop ht (b := false) (.inl ⟨t1, v2, h2, rfl⟩)
    simpa using this
  · simp at hu
theorem ev_eqNp (h : SimG w0 S0 M σ a w S μ β) (hd : ∀ d, o.dst = some d → d < σ.n) {op : BinOp} {t t' : TypeId} {x : Operand} {x' : Opd} (ho : o.op = .binOp op t x (.const (.pointer none)) t') (hop : op = .eql ∨ op = .neq) (hx : compOpd x = some x')
    {e : TypeId} (ht : P.underlying t = some (.pointer e)) {u : Upd} (hu : ev σ o.dst (.eqP (op == .neq) x') = some u) :
    Does P o a w (fun v w' => Sim w0 S0 M (σ.apply o.dst u) (a.put o.dst v) w') := by
  have hrel := opd_sound h hx
  simp only [ev] at hu
  split at hu
  · next heq =>
    rw [heq] at hrel
    obtain rfl := Option.some.inj hu
    have := snd_eqNp h hd ho hop ht (b := true) (.inr ⟨hrel, rfl⟩)
    simpa using this
  · next cs heq =>
    rw [heq] at hrel
    obtain rfl := Option.some.inj hu
    obtain ⟨b, off, h2, _⟩ := hrel
    have := snd_eqNp h hd ho hop ht (b := false) (.inl ⟨_, h2, rfl⟩)
    simpa using this
  · next id off heq =>
    rw [heq] at hrel
    split at hu
    · next cells hl =>
      obtain rfl := Option.some.inj hu
      obtain ⟨b, _, h2⟩ := hrel _ hl
      have := snd_eqNp h hd ho hop ht (b := false) (.inl ⟨_, h2, rfl⟩)
      simpa using this
    · simp at hu
  · simp at hu

theorem ev_eqNs (h : SimG w0 S0 M σ a w S μ β) (hd : ∀ d, o.dst = some d → d < σ.n) {op : BinOp} {t t' : TypeId} {x : Operand} {x' : Opd} (ho : o.op = .binOp op t x (.const (.slice none 0 0)) t') (hop : op = .eql ∨ op = .neq) (hx : compOpd x = some x')
    {e : TypeId} (ht : P.underlying t = some (.slice e)) {u : Upd} (hu : ev σ o.dst (.eqS (op == .neq) x') = some u) :
    Does P o a w (fun v w' => Sim w0 S0 M (σ.apply o.dst u) (a.put o.dst v) w') := by
  have hrel := opd_sound h hx
  simp only [ev] at hu
  split at hu
  · next rd heq =>
    obtain rfl := Option.some.inj hu
    obtain ⟨p, c, h1, _⟩ := rowsOf_sound h heq hrel
    exact (snd_eqNs h hd ho hop ht h1).2
  · next r rs rd heq =>
    obtain rfl := Option.some.inj hu
    obtain ⟨p, c, h1, _, h2⟩ := rowsOf_sound h heq hrel
    obtain ⟨blk, off, s, rfl, _⟩ := h2 (by simp)
    have := (snd_eqNs h hd ho hop ht h1).1
    simpa using this
  · simp at hu

theorem ev_eqA (h : SimG w0 S0 M σ a w S μ β) (hd : ∀ d, o.dst = some d → d < σ.n) {op : BinOp} {t t' : TypeId} {x y : Operand} {x' y' : Opd} (ho : o.op = .binOp op t x y t') (hop : op = .eql ∨ op = .neq) (hx : compOpd x = some x') (hy : compOpd y = some y')
    {fs : Array Field} (ht : P.underlying t = some (.struct fs)) (hg : P.eqGuardType P.depth t = false) {ks : List LK} (hk : leaves P 10 t = some ks) {u : Upd} (hu : ev σ o.dst (.eqA (op == .neq) ks x' y') = some u) :
    Does P o a w (fun v w' => Sim w0 S0 M (σ.apply o.dst u) (a.put o.dst v) w') := by
  have hrel := opd_sound h hx
  have hrel2 := opd_sound h hy
  simp only [ev] at hu
  split at hu
  · next xs ys h1 h2 =>
    rw [h1] at hrel
    rw [h2] at hrel2
    split at hu
    · next b hb =>
      obtain rfl := Option.some.inj hu
      obtain ⟨us, hu1, hu2⟩ := hrel
      obtain ⟨vs, hv1, hv2⟩ := hrel2
      cases hst : P.stoodInHeld t with
      | true => simp [leaves, ht, hst] at hk
      | false =>
        simp only [leaves, ht, hst, Bool.false_eq_true, if_false] at hk
        split at hk
        · next k1 hk1 =>
          split at hk
          · obtain rfl := Option.some.inj hk
            have hf : P.underlying t = some (.struct (P.fieldsOf t)) := by simp [Program.fieldsOf, ht]
            have hfs : P.fieldsOf t = fs := by simp [Program.fieldsOf, ht]
            have he : (Op.equalIn 10000 t (.agg us) (.agg vs)).run P w = .ok b w := by
              have e1 := run_equalIn_struct (P := P) w 9999 t us vs hf hst
              rw [hfs] at e1
              exact e1.trans (eqFields_run (d := 9) (leaves_sound 9) fs.toList 0 k1 hk1 9990 xs ys us vs b hu2 hv2 (by simpa using hb))
            exact snd_eqG h hd ho hop hu1 hv1 (run_eqGuard_agg w op t x y us vs hg) he rfl rfl
          · simp at hk
        · simp at hk
    · simp at hu
  · simp at hu

theorem ev_eq (h : SimG w0 S0 M σ a w S μ β) (hd : ∀ d, o.dst = some d → d < σ.n) {op : BinOp} {t t' : TypeId} {x y : Operand} {x' y' : Opd} (ho : o.op = .binOp op t x y t') (hop : op = .eql ∨ op = .neq) (hx : compOpd x = some x') (hy : compOpd y = some y') {vo : VOp} (hc : compEq P (op == .neq) op t y x' y' = some vo)
    {u : Upd} (hu : ev σ o.dst vo = some u) (hs : u.side) : Does P o a w (fun v w' => Sim w0 S0 M (σ.apply o.dst u) (a.put o.dst v) w') := by
  unfold compEq at hc
  split at hc
  · next ht =>
    obtain rfl := Option.some.inj hc
    simp only [ev] at hu
    split at hu
    · next m n h1 h2 =>
      obtain rfl := Option.some.inj hu
      exact snd_eqB h hd ho hop ht hx hy h1 h2
    · simp at hu
  · obtain rfl := Option.some.inj hc
    exact ev_binop h hd ho hx hy hu hs
  · obtain rfl := Option.some.inj hc
    exact ev_binop h hd ho hx hy hu hs
  · next ms ht =>
    split at hc
    · next hn =>
      obtain rfl := Option.some.inj hc
      obtain rfl := nilI_eq hn
      exact ev_eqNi h hd ho hop hx ht hu
    · simp at hc
  · next e ht =>
    split at hc
    · next hn =>
      obtain rfl := Option.some.inj hc
      obtain rfl := nilP_eq hn
      exact ev_eqNp h hd ho hop hx ht hu
    · split at hc
      · next hi =>
        obtain rfl := Option.some.inj hc
        exact snd_eqL h hd ho hop hx hy ht hi hu
      · simp at hc
  · next e ht =>
    split at hc
    · next hn =>
      obtain rfl := Option.some.inj hc
      obtain rfl := nilS_eq hn
      exact ev_eqNs h hd ho hop hx ht hu
    · simp at hc
  · next fs ht =>
    split at hc
    · simp at hc
    · next hg =>
      simp only [Option.map_eq_some_iff] at hc
      obtain ⟨ks, hk, rfl⟩ := hc
      exact ev_eqA h hd ho hop hx hy ht (by simpa using hg) hk hu
  · simp at hc

theorem ev_bin (h : SimG w0 S0 M σ a w S μ β) (hd : ∀ d, o.dst = some d → d < σ.n) {op : BinOp} {t t' : TypeId} {x y : Operand} (ho : o.op = .binOp op t x y t') {vo : VOp} (hc : compBin P op t x y = some vo)
    {u : Upd} (hu : ev σ o.dst vo = some u) (hs : u.side) : Does P o a w (fun v w' => Sim w0 S0 M (σ.apply o.dst u) (a.put o.dst v) w') := by
  unfold compBin at hc
  split at hc
  · next x' y' hx hy =>
    split at hc
    · exact ev_eq h hd ho (.inl rfl) hx hy hc hu hs
    · exact ev_eq h hd ho (.inr rfl) hx hy hc hu hs
    · obtain rfl := Option.some.inj hc
      exact ev_binop h hd ho hx hy hu hs
  · simp at hc

theorem ev_call (h : SimG w0 S0 M σ a w S μ β) (hd : ∀ d, o.dst = some d → d < σ.n) {c : Call} (ho : o.op = .call c) {vo : VOp} (hc : compCall P c = some vo)
    {u : Upd} (hu : ev σ o.dst vo = some u) (hs : u.side) : Does P o a w (fun v w' => Sim w0 S0 M (σ.apply o.dst u) (a.put o.dst v) w') := by
  unfold compCall at hc
  split at hc
  · next f hf =>
    split at hc
    · split at hc
      · simp at hc
      · simp only [Option.map_eq_some_iff] at hc
        obtain ⟨y, hy, rfl⟩ := hc
        simp [ev] at hu
    · simp at hc
  · split at hc
    · obtain rfl := Option.some.inj hc
      simp [ev] at hu
    · simp at hc
  · next hb =>
    split at hc
    · next t x hat hal =>
      split at hc
      · next u' ht hx =>
        obtain rfl := Option.some.inj hc
        exact (snd_len h hd ho hb hat hal ht hx).1 rfl u hu
      · next e u' ht hx =>
        obtain rfl := Option.some.inj hc
        exact (snd_len h hd ho hb hat hal ht hx).2.1 e rfl u hu
      · next n e u' ht hx =>
        obtain rfl := Option.some.inj hc
        exact (snd_len h hd ho hb hat hal ht hx).2.2 n e rfl u hu
      · simp at hc
    · simp at hc
  · next hb =>
    split at hc
    · next t x hat hal =>
      split at hc
      · next e u' ht hx =>
        obtain rfl := Option.some.inj hc
        exact snd_cap h hd ho hb hat hal ht hx u hu
      · simp at hc
    · simp at hc
  · next hb =>
    split at hc
    · next x y hal =>
      split at hc
      · next x' y' hx hy =>
        obtain rfl := Option.some.inj hc
        exact (snd_max h hd ho hal hx hy).1 hb u hu
      · simp at hc
    · simp at hc
  · next hb =>
    split at hc
    · next x y hal =>
      split at hc
      · next x' y' hx hy =>
        obtain rfl := Option.some.inj hc
        exact (snd_max h hd ho hal hx hy).2 hb u hu
      · simp at hc
    · simp at hc
  · next hb =>
    split at hc
    · next t t' x y hat hat' hal =>
      split at hc
      · next e e' x' y' ht ht' hx hy =>
        split at hc
        · next i hi =>
          split at hc
          · next hok =>
            obtain rfl := Option.some.inj hc
            exact snd_append h hd ho hb hat hat' hal ht ht' hi hok hx hy hu hs
          · simp at hc
        · simp at hc
      · next e k0 x' y' ht ht' hx hy =>
        split at hc
        · next i z hi hz =>
          split at hc
          · next hok =>
            obtain rfl := Option.some.inj hc
            exact snd_appendZ h hd ho hb hat hat' hal ht ht' hi hz hok hx hy hu hs
          · simp at hc
        · simp at hc
      · next e x' y' ht ht' hx hy =>
        split at hc
        · next i hi =>
          split at hc
          · next hok =>
            obtain rfl := Option.some.inj hc
            exact snd_appendS h hd ho hb hat hat' hal ht ht' hi hok hx hy hu hs
          · simp at hc
        · simp at hc
      · simp at hc
    · simp at hc
  · next hb =>
    split at hc
    · next t x hat hal =>
      split at hc
      · next e x' ht hx =>
        simp only [Option.map_eq_some_iff] at hc
        obtain ⟨zero, hz, rfl⟩ := hc
        exact snd_clear h hd ho hb hat hal ht hx hz hu hs
      · simp at hc
    · simp at hc
  · next hb =>
    split at hc
    · next t t' x y hat hat' hal =>
      split at hc
      · next e e' x' y' ht ht' hx hy =>
        simp only [Option.map_eq_some_iff] at hc
        obtain ⟨s, hz, rfl⟩ := hc
        exact snd_copy h hd ho hb hat hal ht hx hy hz hu hs
      · simp at hc
    · simp at hc
  · simp at hc

/-- Every operation that calls nothing. -/
theorem ev_sound0 (h : SimG w0 S0 M σ a w S μ β) (hd : ∀ d, o.dst = some d → d < σ.n) {vo : VOp} (hc : compOp0 P o.op = some vo) {u : Upd} (hu : ev σ o.dst vo = some u) (hs : u.side) :
    Does P o a w (fun v w' => Sim w0 S0 M (σ.apply o.dst u) (a.put o.dst v) w') := by
  cases ho : o.op with
  | move x =>
    simp only [ho, compOp0, Option.map_eq_some_iff] at hc
    obtain ⟨y, hy, rfl⟩ := hc
    simp only [ev, Option.some.injEq] at hu
    subst hu
    exact snd_move h hd (.inl ho) hy
  | assign x =>
    simp only [ho, compOp0, Option.map_eq_some_iff] at hc
    obtain ⟨y, hy, rfl⟩ := hc
    simp only [ev, Option.some.injEq] at hu
    subst hu
    exact snd_move h hd (.inr ho) hy
  | pick c x y =>
    simp only [ho, compOp0] at hc
    split at hc
    · next c' x' y' h1 h2 h3 =>
      obtain rfl := Option.some.inj hc
      simp only [ev] at hu
      split at hu
      · next t heq =>
        obtain rfl := Option.some.inj hu
        exact snd_pick h hd ho h1 h2 h3 heq
      · simp at hu
    · simp at hc
  | alloc t =>
    simp only [ho, compOp0] at hc
    split at hc
    · next hb =>
      obtain rfl := Option.some.inj hc
      exact snd_allocB h hd ho hb hu
    · simp only [Option.map_eq_some_iff] at hc
      obtain ⟨z, hz, rfl⟩ := hc
      exact snd_alloc h hd ho hz hu
  | box t x =>
    simp only [ho, compOp0, Option.map_eq_some_iff] at hc
    obtain ⟨y, hy, rfl⟩ := hc
    exact snd_box h hd ho hy hu
  | build t parts =>
    simp only [ho, compOp0] at hc
    split at hc
    · next fs z ht hz =>
      split at hc
      · next hall =>
        simp only [Option.map_eq_some_iff] at hc
        obtain ⟨p, hp, rfl⟩ := hc
        exact snd_build h hd ho hz (.inl ⟨fs, ht, rfl, hall⟩) hp hu
      · simp at hc
    · next n e z ht hz =>
      split at hc
      · next s hs' =>
        simp only [Option.map_eq_some_iff] at hc
        obtain ⟨p, hp, rfl⟩ := hc
        exact snd_build h hd ho hz (.inr ⟨n, e, s, ht, hs', rfl⟩) hp hu
      · simp at hc
    · simp at hc
  | buildSlice t n parts =>
    simp only [ho, compOp0] at hc
    split at hc
    · next e ht =>
      split at hc
      · next s z hs' hz =>
        split at hc
        · next hok =>
          simp only [Option.map_eq_some_iff] at hc
          obtain ⟨p, hp, rfl⟩ := hc
          exact snd_buildSlice h hd ho ht hs' hz hok hp hu
        · simp at hc
      · simp at hc
    · simp at hc
  | load t x =>
    simp only [ho, compOp0] at hc
    split at hc
    · next g x' hg hx =>
      obtain rfl := Option.some.inj hc
      exact snd_load h hd ho hx hg hu hs
    · simp at hc
  | store t x y =>
    simp only [ho, compOp0] at hc
    split at hc
    · next n x' y' hn hx hy =>
      obtain rfl := Option.some.inj hc
      exact snd_store h hd ho hn hx hy hu hs
    · simp at hc
  | nilCheck x =>
    simp only [ho, compOp0, Option.map_eq_some_iff] at hc
    obtain ⟨y, hy, rfl⟩ := hc
    exact snd_nilCheck h hd ho hy hu
  | binOp op t x y t' =>
    simp only [ho, compOp0] at hc
    exact ev_bin h hd ho hc hu hs
  | unOp op t x =>
    simp only [ho, compOp0, Option.map_eq_some_iff] at hc
    obtain ⟨y, hy, rfl⟩ := hc
    simp only [ev] at hu
    split at hu
    · next k n heq =>
      obtain rfl := Option.some.inj hu
      exact (snd_un h hd hy).1 ho heq
    · next b heq =>
      obtain rfl := Option.some.inj hu
      exact (snd_un h hd hy).2 ho heq
    · simp at hu
  | convert s t x =>
    simp only [ho, compOp0] at hc
    split at hc
    · next k1 k2 y h1 h2 hy =>
      obtain rfl := Option.some.inj hc
      simp only [ev] at hu
      split at hu
      · next k n heq =>
        obtain rfl := Option.some.inj hu
        exact (snd_conv h hd ho hy).1 h1 h2 heq
      · simp at hu
    · next y h1 h2 hy =>
      obtain rfl := Option.some.inj hc
      simp only [ev] at hu
      split at hu
      · next n heq =>
        obtain rfl := Option.some.inj hu
        exact (snd_conv h hd ho hy).2 h1 h2 heq
      · simp at hu
    · next k1 y h1 h2 hy =>
      obtain rfl := Option.some.inj hc
      exact snd_convR h hd ho h1 h2 hy hu
    · next e y h1 h2 hy =>
      split at hc
      · next he =>
        obtain rfl := Option.some.inj hc
        exact snd_convB h hd ho h1 h2 he hy hu
      · simp at hc
    · simp at hc
  | makeInterface t x =>
    simp only [ho, compOp0] at hc
    split at hc
    · simp at hc
    · next d hni ht =>
      simp only [Option.map_eq_some_iff] at hc
      obtain ⟨y, hy, rfl⟩ := hc
      exact snd_mkIface h hd ho ht (fun ms e => hni ms e) hy hu
    · simp at hc
  | makeFunc fn first caps =>
    simp only [ho, compOp0, compFn] at hc
    split at hc
    · next f =>
      split at hc
      · next hf =>
        simp only [Option.map_eq_some_iff] at hc
        obtain ⟨y, hy, rfl⟩ := hc
        obtain rfl : first = #[] := Array.eq_empty_of_size_eq_zero hf
        exact snd_mkFunc h hd ho hy hu
      · split at hc
        · next hf =>
          simp only [Option.map_eq_some_iff] at hc
          obtain ⟨y, hy, rfl⟩ := hc
          obtain rfl : caps = #[] := Array.eq_empty_of_size_eq_zero hf
          exact snd_mkBound h hd ho hy hu
        · simp at hc
    · simp at hc
  | makeSlice t l c =>
    simp only [ho, compOp0] at hc
    split at hc
    · next e ht =>
      split at hc
      · next i z x' y' hi hz hx hy =>
        split at hc
        · next hok =>
          obtain rfl := Option.some.inj hc
          exact snd_mkSlice h hd ho ht hi hz hok hx hy hu hs
        · simp at hc
      · simp at hc
    · simp at hc
  | slice t x lo hi mx =>
    simp only [ho, compOp0] at hc
    split at hc
    · next x' l' h' ht hx hl hh hm =>
      obtain rfl := Option.some.inj hc
      have hmx : mx = none := by
        cases mx with
        | none => rfl
        | some y => simp [compOpt] at hm
      subst hmx
      exact snd_subS h hd ho ht hx hl hh hu hs
    · next e x' l' h' m' ht hx hl hh hm =>
      simp only [Option.map_eq_some_iff] at hc
      obtain ⟨s, hsz, rfl⟩ := hc
      exact snd_subV h hd ho ht hsz hx hl hh hm hu hs
    · next n e x' l' h' ht hx hl hh hm =>
      simp only [Option.map_eq_some_iff] at hc
      obtain ⟨s, hsz, rfl⟩ := hc
      have hmx : mx = none := by
        cases mx with
        | none => rfl
        | some y => simp [compOpt] at hm
      subst hmx
      exact snd_subA h hd ho ht hsz hx hl hh hu hs
    · simp at hc
  | fieldAddr t x f =>
    simp only [ho, compOp0] at hc
    split at hc
    · next fs ht =>
      split at hc
      · next g x' hg hx =>
        split at hc
        · next n hn =>
          split at hc
          · simp at hc
          · next hn0 =>
            obtain rfl := Option.some.inj hc
            exact snd_fieldAddr h hd ho ht hg hn hn0 hx hu
        · simp at hc
      · simp at hc
    · simp at hc
  | field t x f =>
    simp only [ho, compOp0] at hc
    split at hc
    · next fs ht =>
      split at hc
      · next fg x' hf hx =>
        simp only [Option.map_eq_some_iff] at hc
        obtain ⟨g, hg, rfl⟩ := hc
        exact snd_field h hd ho ht hf hg hx hu
      · simp at hc
    · simp at hc
  | indexAddr t x i =>
    simp only [ho, compOp0] at hc
    split at hc
    · next e ht =>
      split at hc
      · next s x' i' hsz hx hi =>
        obtain rfl := Option.some.inj hc
        exact snd_indexAddr h hd ho ht hsz hx hi hu hs
      · simp at hc
    · next n e ht =>
      split at hc
      · next s x' i' hsz hx hi =>
        obtain rfl := Option.some.inj hc
        exact snd_indexArr h hd ho ht hsz hx hi hu hs
      · simp at hc
    · simp at hc
  | index t x i =>
    simp only [ho, compOp0] at hc
    split at hc
    · next ht =>
      split at hc
      · next x' i' hx hi =>
        obtain rfl := Option.some.inj hc
        exact snd_indexS h hd ho ht hx hi hu
      · simp at hc
    · next n e ht =>
      split at hc
      · next g s x' i' hg hsz hx hi =>
        obtain rfl := Option.some.inj hc
        exact snd_indexA h hd ho ht hg hsz hx hi hu
      · simp at hc
    · simp at hc
  | extract x i =>
    simp only [ho, compOp0, Option.map_eq_some_iff] at hc
    obtain ⟨y, hy, rfl⟩ := hc
    exact snd_extract h hd ho hy hu
  | call c =>
    simp only [ho, compOp0] at hc
    exact ev_call h hd ho hc hu hs
  | range t x =>
    simp only [ho, compOp0] at hc
    split at hc
    · next x' ht hx =>
      obtain rfl := Option.some.inj hc
      exact snd_range h hd ho ht hx hu
    · simp at hc
  | next x b =>
    cases b with
    | false => simp [ho, compOp0] at hc
    | true =>
      simp only [ho, compOp0, Option.map_eq_some_iff] at hc
      obtain ⟨y, hy, rfl⟩ := hc
      exact snd_next h hd ho hy hu
  | makeMap t r =>
    cases r with
    | some _ => simp [ho, compOp0] at hc
    | none =>
      simp only [ho, compOp0] at hc
      obtain rfl := Option.some.inj hc
      exact snd_mkMap h hd ho hu
  | mapUpdate t m k x =>
    simp only [ho, compOp0] at hc
    split at hc
    · next kt vt m' k' x' ht hm hk hx =>
      split at hc
      · next fs ks hkt hks =>
        split at hc
        · simp at hc
        · obtain rfl := Option.some.inj hc
          exact snd_mapSet h hd ho ht hkt hks hm hk hx hu
      · simp at hc
    · simp at hc
  | lookup t m k ok =>
    cases ok with
    | true => simp [ho, compOp0] at hc
    | false =>
      simp only [ho, compOp0] at hc
      split at hc
      · next kt vt m' k' ht hm hk =>
        split at hc
        · next fs ks hkt hks =>
          split at hc
          · simp at hc
          · obtain rfl := Option.some.inj hc
            exact snd_mapGet h hd ho ht hkt hks hm hk hu
        · simp at hc
      · simp at hc
  | _ => simp [ho, compOp0] at hc

theorem ev_sound (h : SimG w0 S0 M σ a w S μ β) (hd : ∀ d, o.dst = some d → d < σ.n) {vo : VOp} (hc : compOp P o.op = some vo) {u : Upd} (hu : ev σ o.dst vo = some u) (hs : u.side) :
    Does P o a w (fun v w' => Sim w0 S0 M (σ.apply o.dst u) (a.put o.dst v) w') := by
  rcases compOp_cases hc with hc | rfl
  · exact ev_sound0 h hd hc hu hs
  · simp [ev] at hu

end
end Go.Vs
set_option linter.unusedVariables false
set_option linter.unusedSimpArgs false
namespace Go.Vs

def Callable (P : Program) (k : FuncId) : Prop := ∃ fn, P.funcs[k]? = some fn ∧ fn.name ≠ "runtime.NumGoroutine"
/-- A function of the program's text is called; or one of the model's own gives a value at once. -/
def CallDoes (P : Program) (k : FuncId) (args : Array Value) (w : World) (R : Ending → World → Prop) : Prop :=
  ((∃ fn, P.funcs[k]? = some fn ∧ fn.body.isSome = true) ∧ Calls P k args w R) ∨ ∃ v w', (callFunc k args).run P w = .ok (.value v) w' ∧ R (.returned v) w'
theorem CallDoes.mono {P : Program} {k : FuncId} {args : Array Value} {w : World} {R R' : Ending → World → Prop} (h : CallDoes P k args w R) (hi : ∀ e w', R e w' → R' e w') : CallDoes P k args w R' := by
  rcases h with ⟨h1, h2⟩ | ⟨v, w', h1, h2⟩
  · exact .inl ⟨h1, h2.mono hi⟩
  · exact .inr ⟨v, w', h1, hi _ _ h2⟩
theorem CallDoes.calls {P : Program} {k : FuncId} {fn : Func} {args : Array Value} {w : World} {R : Ending → World → Prop} (h : CallDoes P k args w R) (hf : P.funcs[k]? = some fn) (hn : fn.name ≠ "runtime.NumGoroutine") (hb : fn.body.isSome = true) : Calls P k args w R := by
  rcases h with ⟨h1, h2⟩ | ⟨v, w', h1, h2⟩
  · exact h2
  · exfalso
    cases hc : fn.body with
    | none => simp [hc] at hb
    | some c => simp [callFunc, hf, hn, hc, Sem.run] at h1

/-- What a call gives: an immutable value; or an array of its own, that nobody else holds. -/
inductive Res where
  | imm (v : IV)
  | own (s : Nat) (rows : List (List IV))

def ResRel (w : World) (S : Stab) (w' : World) (S' : Stab) : Res → Value → Prop
  | .imm x, v => Rep w' S' x v
  | .own s rows, v => ∃ blk, ObRel w' S' (fun _ => Go.undef) [] blk v (.arr 0 s rows) ∧ ∀ b, blk = some b → w.heap.size ≤ b ∧ ∀ off, ¬ S' b off

/-- THE CONTRACT of a function at these arguments: in whatever memory they are read, the call returns, what it gives is read so, and nothing that was there has turned. -/
def FnR (gl : List (Nat × List IV)) (P : Program) (k : FuncId) (args : List IV) (r : Res) : Prop :=
  Callable P k ∧ ∀ (w : World) (S : Stab) (vs : List Value), (∀ b o, S b o → b < w.heap.size) → RepList w S args vs → (∀ p, p ∈ gl → RepGl w S p) →
    CallDoes P k vs.toArray w fun e w' => ∃ v S', e = .returned v ∧ ResRel w S w' S' r v ∧ (∀ b o, S b o → S' b o) ∧ (∀ b o, S' b o → S b o ∨ w.heap.size ≤ b) ∧ (∀ b o, S' b o → b < w'.heap.size) ∧ Kept (fun _ => False) w w'

abbrev Fn (gl : List (Nat × List IV)) (P : Program) (k : FuncId) (args : List IV) (res : IV) : Prop := FnR gl P k args (.imm res)

def flatRows : List (List IV) → Bool
  | [] => true
  | r :: rs => IV.flat.flats r && flatRows rs

def callUpd (dst : Option Nat) (fz : List Nat) : Res → Option Upd
  | .imm v => some { v := .val v, fz := if v.flat then [] else fz }
  | .own s rows => match dst with
    | some d => some { v := .own d 0, new := some (.arr 0 s rows), fz := if flatRows rows then [] else fz }
    | none => none
def callArgs (σ : St) (f : SV) (args : List Opd) : Option (FuncId × List IV × List Nat) :=
  match toIV σ.objs f, toIVs σ.objs (args.map (val σ)) with
  | some (.fn k caps, f1), some (ivs, f2) => some (k, ivs ++ caps, f1 ++ f2)
  | some (.bnd k first, f1), some (ivs, f2) => some (k, first ++ ivs, f1 ++ f2)
  | _, _ => none

/-- One operation does this. -/
def OpRel (P : Program) (σ : St) (dst : Option Nat) (u : Upd) : VOp → Prop
  | .call f args => ∃ k ivs fz r, callArgs σ (.val (.fn f [])) args = some (k, ivs, fz) ∧ FnR σ.gl P k ivs r ∧ callUpd dst fz r = some u
  | .callV f args => ∃ k ivs fz r, callArgs σ (val σ f) args = some (k, ivs, fz) ∧ FnR σ.gl P k ivs r ∧ callUpd dst fz r = some u
  | op => ev σ dst op = some u ∧ u.side

/-- One operation, forward. -/
def opW (P : Program) (σ : St) (dst : Option Nat) (k : Upd → Prop) : VOp → Prop
  | .call f args => match callArgs σ (.val (.fn f [])) args with
    | some (g, ivs, fz) => ∃ r, FnR σ.gl P g ivs r ∧ match callUpd dst fz r with
      | some u => k u
      | none => False
    | none => False
  | .callV f args => match callArgs σ (val σ f) args with
    | some (g, ivs, fz) => ∃ r, FnR σ.gl P g ivs r ∧ match callUpd dst fz r with
      | some u => k u
      | none => False
    | none => False
  | op => match ev σ dst op with
    | some u => u.side ∧ k u
    | none => False

theorem opW_rel {P : Program} {σ : St} {dst : Option Nat} {k : Upd → Prop} {op : VOp} (h : opW P σ dst k op) : ∃ u, OpRel P σ dst u op ∧ k u := by
  cases op
  case call f args =>
    simp only [opW] at h
    split at h
    · next g ivs fz hc =>
      obtain ⟨r, h1, h2⟩ := h
      split at h2
      · next u hu => exact ⟨u, ⟨g, ivs, fz, r, hc, h1, hu⟩, h2⟩
      · exact h2.elim
    · exact h.elim
  case callV f args =>
    simp only [opW] at h
    split at h
    · next g ivs fz hc =>
      obtain ⟨r, h1, h2⟩ := h
      split at h2
      · next u hu => exact ⟨u, ⟨g, ivs, fz, r, hc, h1, hu⟩, h2⟩
      · exact h2.elim
    · exact h.elim
  all_goals
    simp only [opW] at h
    split at h
    · next u hu => exact ⟨u, ⟨hu, h.1⟩, h.2⟩
    · exact h.elim

mutual
theorem IV.flat_rep {w w' : World} {S S' : Stab} : ∀ (x : IV) (v : Value), x.flat = true → Rep w S x v → Rep w' S' x v
  | .int _ _, _, _, h => h
  | .bool _, _, _, h => h
  | .str _, _, _, h => h
  | .nilp, _, _, h => h
  | .ref _, _, hf, _ => by simp [IV.flat] at hf
  | .slice _, _, hf, _ => by simp [IV.flat] at hf
  | .nilf, _, _, h => h
  | .yld _, _, _, h => h
  | .handle _ _ _, _, _, h => h
  | .nilS, _, _, h => h
  | .fn _ _, _, hf, _ => by simp [IV.flat] at hf
  | .bnd _ _, _, hf, _ => by simp [IV.flat] at hf
  | .nili, _, _, h => h
  | .iface _ x, _, hf, ⟨u, h1, h2⟩ => ⟨u, h1, IV.flat_rep x u (by simpa [IV.flat] using hf) h2⟩
  | .agg cells, _, hf, ⟨vs, h1, h2⟩ => ⟨vs, h1, flats_ones cells _ (by simpa [IV.flat] using hf) h2⟩
  | .tuple xs, _, hf, ⟨vs, h1, h2⟩ => ⟨vs, h1, flats_list xs _ (by simpa [IV.flat] using hf) h2⟩
theorem flats_ones {w w' : World} {S S' : Stab} : ∀ (x : List IV) (v : List Value), IV.flat.flats x = true → RepOnes w S x v → RepOnes w' S' x v
  | [], _, _, h => h
  | x :: xs, _, hf, ⟨u, us, h1, h0, h2, h3⟩ => by
    simp only [IV.flat.flats, Bool.and_eq_true] at hf
    exact ⟨u, us, h1, h0, IV.flat_rep x u hf.1 h2, flats_ones xs us hf.2 h3⟩
theorem flats_list {w w' : World} {S S' : Stab} : ∀ (x : List IV) (v : List Value), IV.flat.flats x = true → RepList w S x v → RepList w' S' x v
  | [], _, _, h => h
  | x :: xs, _, hf, ⟨u, us, h1, h2, h3⟩ => by
    simp only [IV.flat.flats, Bool.and_eq_true] at hf
    exact ⟨u, us, h1, IV.flat_rep x u hf.1 h2, flats_list xs us hf.2 h3⟩
end
theorem flats_append : ∀ {xs ys : List IV}, IV.flat.flats xs = true → IV.flat.flats ys = true → IV.flat.flats (xs ++ ys) = true
  | [], _, _, h => h
  | x :: xs, ys, h, k => by
    simp only [IV.flat.flats, Bool.and_eq_true] at h
    simp only [List.cons_append, IV.flat.flats, Bool.and_eq_true]
    exact ⟨h.1, flats_append h.2 k⟩
theorem flatRows_flatten : ∀ {rows : List (List IV)}, flatRows rows = true → IV.flat.flats rows.flatten = true
  | [], _ => rfl
  | r :: rs, h => by
    simp only [flatRows, Bool.and_eq_true] at h
    simp only [List.flatten_cons]
    exact flats_append h.1 (flatRows_flatten h.2)

section
variable {P : Program} {w0 w : World} {S0 S : Stab} {M : Ctx} {σ : St} {a : Act} {μ : Nat → Value} {β : Nat → Option Nat} {o : Oper}

theorem RepList.append {w : World} {S : Stab} : ∀ {xs ys : List IV} {us vs : List Value}, RepList w S xs us → RepList w S ys vs → RepList w S (xs ++ ys) (us ++ vs)
  | [], _, _, _, h, k => by have h : _ = _ := h; subst h; exact k
  | _ :: _, _, _, _, ⟨u, us', h1, h2, h3⟩, k => by subst h1; exact ⟨u, us' ++ _, rfl, h2, RepList.append h3 k⟩

theorem ObRel.arr_any {w : World} {S : Stab} {μ μ' : Nat → Value} {objs objs' : List (Nat × Ob)} {blk : Option Nat} {mu : Value} {ver s : Nat} {rows : List (List IV)} (h : ObRel w S μ objs blk mu (.arr ver s rows)) : ObRel w S μ' objs' blk mu (.arr ver s rows) := h

/-- Behind a call. -/
theorem call_after (h : SimG w0 S0 M σ a w S μ β) (hd : ∀ d, o.dst = some d → d < σ.n) {fz : List Nat} {r : Res} {u : Upd} (hu : callUpd o.dst fz r = some u) {w' : World} {S' : Stab} {v : Value} (hr : ResRel w (Plus S β σ.objs fz) w' S' r v)
    (h1 : ∀ b off, Plus S β σ.objs fz b off → S' b off) (h2 : ∀ b off, S' b off → Plus S β σ.objs fz b off ∨ w.heap.size ≤ b) (h3 : ∀ b off, S' b off → b < w'.heap.size) (hk : Kept (fun _ => False) w w') :
    Sim w0 S0 M (σ.apply o.dst u) (a.put o.dst v) w' := by
  have hlive : ∀ id o b, look σ.objs id = some o → β id = some b → b < w.heap.size := fun id o b hl hb => ObRel.live hb (h.objs id o hl)
  -- with what was handed in frozen
  have hfz : SimG w0 S0 M { σ with ro := fz ++ σ.ro } a w' S' μ β := (h.freeze fz).world ⟨fun b off hS => cell_of_heap (hk.block b ((h.freeze fz).stab b off hS) (fun x => x)) off, hk.shape⟩ h1
    (fun id o b hl hb => hk.block b (hlive id o b hl hb) (fun x => x)) (fun id o b off hl hb hS => (h2 b off hS).resolve_right (by have := hlive id o b hl hb; omega)) h3
    (fun b off hS => (h2 b off hS).elim .inl (fun hb => .inr (.inl (Nat.le_trans h.kept.size hb)))) (h.kept.trans hk.none)
  -- or as it was
  have hfl : SimG w0 S0 M σ a w' S μ β := h.world (⟨fun b off hS => cell_of_heap (hk.block b (h.stab b off hS) (fun x => x)) off, hk.shape⟩) (fun _ _ x => x)
    (fun id o b hl hb => hk.block b (hlive id o b hl hb) (fun x => x)) (fun _ _ _ _ _ _ x => x) (fun b off hS => Nat.lt_of_lt_of_le (h.stab b off hS) hk.size) (fun _ _ x => .inl x) (h.kept.trans hk.none)
  cases r with
  | imm x =>
    simp only [callUpd, Option.some.injEq] at hu
    subst hu
    cases hf : x.flat with
    | true =>
      simp only [if_true]
      exact ⟨S, μ, β, hfl.putD hd (IV.flat_rep x v hf hr)⟩
    | false =>
      simp only [Bool.false_eq_true, if_false]
      exact ⟨S', μ, β, hfz.putD (σ := { σ with ro := fz ++ σ.ro }) hd hr⟩
  | own s rows =>
    simp only [callUpd] at hu
    split at hu
    · next d hdst =>
      obtain rfl := Option.some.inj hu
      obtain ⟨blk, hob, hblk⟩ := hr
      rw [hdst]
      have hv : ∀ (σ' : St), SVRel w' S' (fun id => if id = d then v else μ id) (eraseO d (put σ'.objs d (.arr 0 s rows))) (.own d 0) v := by
        intro σ' cv s' rows' hl
        rw [look_eraseO, look_put_self] at hl
        simp only [Option.map_some, Ob.erase, Option.some.injEq, Ob.arr.injEq] at hl
        obtain ⟨rfl, _, _⟩ := hl
        exact ⟨Nat.le_refl _, fun _ => by simp⟩
      cases hf : flatRows rows with
      | true =>
        simp only [if_true]
        have hob' : ObRel w' S μ σ.objs blk v (.arr 0 s rows) := by
          rcases hob with hob | ⟨b, cap, vs, e, fr, k1, k2, k3, k4, k5, k6, k7, k8⟩
          · exact .inl hob
          · exact .inr ⟨b, cap, vs, e, fr, k1, k2, k3, k4, k5, k6, k7, flats_ones _ _ (flatRows_flatten hf) k8⟩
        have := hfl.create' d (hd d hdst) (.arr 0 s rows) blk v (Kept.refl _ _) (fun b hb => by
          obtain ⟨k1, k2⟩ := hblk b hb
          refine ⟨Nat.le_trans h.kept.size k1, fun off hS => ?_, fun id o hl hb' => ?_⟩
          · have := h.stab b off hS; omega
          · have := hlive id o b hl hb'; omega) hob'
        exact ⟨S, _, _, this.put (hd d hdst) (hv σ)⟩
      | false =>
        simp only [Bool.false_eq_true, if_false]
        have := hfz.create' d (hd d hdst) (.arr 0 s rows) blk v (Kept.refl _ _) (fun b hb => by
          obtain ⟨k1, k2⟩ := hblk b hb
          refine ⟨Nat.le_trans h.kept.size k1, k2, fun id o hl hb' => ?_⟩
          have := hlive id o b hl hb'; omega) hob
        exact ⟨S', _, _, this.put (hd d hdst) (hv { σ with ro := fz ++ σ.ro })⟩
    · simp at hu

theorem callDoes_wp {P : Program} {o : Oper} {a : Act} {w : World} {k : FuncId} {fn : Func} {args : Array Value} {R : Ending → World → Prop} (hfn : P.funcs[k]? = some fn) (hname : fn.name ≠ "runtime.NumGoroutine")
    (hexec : (execOp a.eval o).run P w = (callFunc k args).run P w) (h : CallDoes P k args w R) {next : Act → World → Prop} {Q : Exit → Act → World → Prop} (hret : ∀ e w', R e w' → ∃ v, e = .returned v ∧ next (a.put o.dst v) w') : o.wp P a w next Q := by
  unfold Oper.wp
  rw [hexec]
  rcases h with ⟨⟨fn', hf', hb⟩, hc⟩ | ⟨v, w', h1, h2⟩
  · have hb : fn.body.isSome = true := by rw [hfn] at hf'; obtain rfl := Option.some.inj hf'; exact hb
    have hrun : (callFunc k args).run P w = .ok (.enter k args) w := by
      simp only [callFunc, Sem.run_bind, run_program, Result.andThen_ok, hfn]
      rw [if_neg (by simpa using hname), if_neg (by cases hb' : fn.body <;> simp_all)]
      simp
    rw [hrun, Oper.upon_enter]
    refine hc.mono fun e w' hr => ?_
    obtain ⟨v, rfl, hn⟩ := hret _ _ hr
    exact hn
  · rw [h1, Oper.upon_value]
    obtain ⟨v', he, hn⟩ := hret _ _ h2
    cases he
    exact hn

/-- A call of a function value. -/
theorem call_wp (h : SimG w0 S0 M σ a w S μ β) (hd : ∀ d, o.dst = some d → d < σ.n) {c : Call} {f : Operand} (ho : o.op = .call c) (hcl : c.callee = .value f) {fv : SV} (hfv : SVRel w S μ σ.objs fv (a.eval f)) {args : List Opd} (hargs : compOpds c.args.toList = some args)
    {k : FuncId} {ivs : List IV} {fz : List Nat} (hca : callArgs σ fv args = some (k, ivs, fz)) {r : Res} (hF : FnR σ.gl P k ivs r) {u : Upd} (hu : callUpd o.dst fz r = some u) {next : Act → World → Prop} {Q : Exit → Act → World → Prop}
    (hn : ∀ v w', Sim w0 S0 M (σ.apply o.dst u) (a.put o.dst v) w' → next (a.put o.dst v) w') : o.wp P a w next Q := by
  unfold callArgs at hca
  split at hca
  · next k' caps f1 ivs' f2 h1 h2 =>
    simp only [Option.some.injEq, Prod.mk.injEq] at hca
    obtain ⟨rfl, rfl, rfl⟩ := hca
    have hfr := toIV_sound (fz' := f1 ++ f2) h h1 (fun i hi => List.mem_append_left _ hi) hfv
    have har := toIVs_sound (fz' := f1 ++ f2) h h2 (fun i hi => List.mem_append_right _ hi) (opds_sound h hargs)
    obtain ⟨caps', hev, hcaps⟩ := hfr
    obtain ⟨⟨fn, hfn, hname⟩, hcalls⟩ := hF
    have hrun : (execOp a.eval o).run P w = (callFunc k' (c.args.map a.eval ++ caps')).run P w := by
      simp only [execOp, ho, resolve, hcl, hev, Deferred.ofValue, Sem.run_bind, Sem.run_pure, Result.andThen_ok, invoke, Array.empty_append]
    have hvals : c.args.map a.eval ++ caps' = ((c.args.toList.map a.eval) ++ caps'.toList).toArray := by
      apply Array.toList_inj.1; simp
    rw [hvals] at hrun
    refine callDoes_wp hfn hname hrun (hcalls w (Plus S β σ.objs (f1 ++ f2)) _ (h.freeze (f1 ++ f2)).stab (RepList.append har hcaps) (h.freeze (f1 ++ f2)).glob) ?_
    rintro e w' ⟨v, S', rfl, hr, g1, g2, g3, hk⟩
    exact ⟨v, rfl, hn v w' (call_after h hd hu hr g1 g2 g3 hk)⟩
  · next k' first f1 ivs' f2 h1 h2 =>
    simp only [Option.some.injEq, Prod.mk.injEq] at hca
    obtain ⟨rfl, rfl, rfl⟩ := hca
    have hfr := toIV_sound (fz' := f1 ++ f2) h h1 (fun i hi => List.mem_append_left _ hi) hfv
    have har := toIVs_sound (fz' := f1 ++ f2) h h2 (fun i hi => List.mem_append_right _ hi) (opds_sound h hargs)
    obtain ⟨first', hev, hfirst⟩ := hfr
    obtain ⟨⟨fn, hfn, hname⟩, hcalls⟩ := hF
    have hrun : (execOp a.eval o).run P w = (callFunc k' (first' ++ c.args.map a.eval)).run P w := by
      simp only [execOp, ho, resolve, hcl, hev, Deferred.ofValue, Sem.run_bind, Sem.run_pure, Result.andThen_ok, invoke, Array.append_empty]
    have hvals : first' ++ c.args.map a.eval = (first'.toList ++ (c.args.toList.map a.eval)).toArray := by
      apply Array.toList_inj.1; simp
    rw [hvals] at hrun
    refine callDoes_wp hfn hname hrun (hcalls w (Plus S β σ.objs (f1 ++ f2)) _ (h.freeze (f1 ++ f2)).stab (RepList.append hfirst har) (h.freeze (f1 ++ f2)).glob) ?_
    rintro e w' ⟨v, S', rfl, hr, g1, g2, g3, hk⟩
    exact ⟨v, rfl, hn v w' (call_after h hd hu hr g1 g2 g3 hk)⟩
  · simp at hca

theorem compCall_value {c : Call} {vo : VOp} (hc : compCall P c = some vo) :
    (∀ f args, vo = .call f args → c.callee = .value (.func f) ∧ compOpds c.args.toList = some args) ∧
    (∀ f' args, vo = .callV f' args → ∃ f, c.callee = .value f ∧ compOpd f = some f' ∧ compOpds c.args.toList = some args) := by
  unfold compCall at hc
  split at hc
  · next f hf =>
    split at hc
    · split at hc
      · simp at hc
      · simp only [Option.map_eq_some_iff] at hc
        obtain ⟨y, hy, rfl⟩ := hc
        refine ⟨fun f' args e => ?_, fun f' args e => by simp at e⟩
        simp only [VOp.call.injEq] at e
        obtain ⟨rfl, rfl⟩ := e
        exact ⟨hf, hy⟩
    · simp at hc
  · next f _ hf =>
    split at hc
    · next u vs hu hv =>
      obtain rfl := Option.some.inj hc
      refine ⟨fun f' args e => by simp at e, fun f' args e => ?_⟩
      simp only [VOp.callV.injEq] at e
      obtain ⟨rfl, rfl⟩ := e
      exact ⟨f, hf, hu, hv⟩
    · simp at hc
  all_goals
    (repeat' split at hc) <;> first
      | (simp at hc; done)
      | (obtain rfl := Option.some.inj hc; exact ⟨fun _ _ e => by simp at e, fun _ _ e => by simp at e⟩)
      | (simp only [Option.map_eq_some_iff] at hc; obtain ⟨_, _, rfl⟩ := hc; exact ⟨fun _ _ e => by simp at e, fun _ _ e => by simp at e⟩)

theorem compOp0_call {op : Op} {vo : VOp} (hc : compOp0 P op = some vo) (hv : (∃ f args, vo = .call f args) ∨ (∃ f args, vo = .callV f args)) : ∃ c, op = .call c ∧ compCall P c = some vo := by
  cases op with
  | call c => exact ⟨c, rfl, hc⟩
  | next x b =>
    exfalso
    cases b with
    | false => simp [compOp0] at hc
    | true =>
      simp only [compOp0, Option.map_eq_some_iff] at hc
      obtain ⟨y, _, rfl⟩ := hc
      rcases hv with ⟨f, args, e⟩ | ⟨f, args, e⟩ <;> simp at e
  | makeMap t r =>
    exfalso
    cases r with
    | some _ => simp [compOp0] at hc
    | none =>
      simp only [compOp0, Option.some.injEq] at hc
      subst hc
      rcases hv with ⟨f, args, e⟩ | ⟨f, args, e⟩ <;> simp at e
  | lookup t m k ok =>
    exfalso
    cases ok with
    | true => simp [compOp0] at hc
    | false =>
      simp only [compOp0] at hc
      rcases hv with ⟨f, args, rfl⟩ | ⟨f, args, rfl⟩ <;> ((repeat' split at hc) <;> (simp at hc; done))
  | _ =>
    exfalso
    unfold compOp0 at hc
    rcases hv with ⟨f, args, rfl⟩ | ⟨f, args, rfl⟩
    all_goals
      first
        | (simp at hc; done)
        | ((repeat' split at hc) <;> (simp at hc; done))
        | (simp only [compFn, compBin, compEq] at hc; (repeat' split at hc) <;> (simp at hc; done))

theorem compOp_call {op : Op} {vo : VOp} (hc : compOp P op = some vo) (hv : (∃ f args, vo = .call f args) ∨ (∃ f args, vo = .callV f args)) : ∃ c, op = .call c ∧ compCall P c = some vo := by
  rcases compOp_cases hc with hc | rfl
  · exact compOp0_call hc hv
  · rcases hv with ⟨f, args, e⟩ | ⟨f, args, e⟩ <;> simp at e

/-- ONE OPERATION. -/
theorem op_sound (h : Sim w0 S0 M σ a w) (hd : ∀ d, o.dst = some d → d < σ.n) {vo : VOp} (hc : compOp P o.op = some vo) {u : Upd} (hu : OpRel P σ o.dst u vo) {next : Act → World → Prop} {Q : Exit → Act → World → Prop}
    (hn : ∀ v w', Sim w0 S0 M (σ.apply o.dst u) (a.put o.dst v) w' → next (a.put o.dst v) w') : o.wp P a w next Q := by
  obtain ⟨S, μ, β, h⟩ := h
  have plain : ev σ o.dst vo = some u → u.side → o.wp P a w next Q := by
    intro h1 h2
    obtain ⟨n, v, w', hrun, hv, hs⟩ := ev_sound h hd hc h1 h2
    unfold Oper.wp
    rw [hrun]
    rcases hv with rfl | ⟨rfl, rfl⟩
    · rw [Oper.upon_value]; exact hn v w' hs
    · rw [Oper.upon_skip]; exact hn _ w' hs
  cases vo
  case call f args =>
    obtain ⟨k, ivs, fz, r, h1, h2, h3⟩ := hu
    obtain ⟨c, ho, hcc⟩ := compOp_call hc (.inl ⟨_, _, rfl⟩)
    obtain ⟨hcl, hargs⟩ := (compCall_value hcc).1 _ _ rfl
    exact call_wp h hd ho hcl (fv := .val (.fn f [])) ⟨#[], rfl, rfl⟩ hargs h1 h2 h3 hn
  case callV f args =>
    obtain ⟨k, ivs, fz, r, h1, h2, h3⟩ := hu
    obtain ⟨c, ho, hcc⟩ := compOp_call hc (.inr ⟨_, _, rfl⟩)
    obtain ⟨f', hcl, hf, hargs⟩ := (compCall_value hcc).2 _ _ rfl
    exact call_wp h hd ho hcl (opd_sound h hf) hargs h1 h2 h3 hn
  all_goals exact plain hu.1 hu.2

end
end Go.Vs
set_option linter.unusedVariables false
set_option linter.unusedSimpArgs false
namespace Go.Vs

def VOp.opds : VOp → List Opd
  | .move x => [x]
  | .pick c a b => [c, a, b]
  | .alloc _ => []
  | .allocB _ => []
  | .box x => [x]
  | .build _ parts => parts.map (·.2.2)
  | .buildSlice _ _ _ parts => parts.map (·.2.2)
  | .load _ x => [x]
  | .store _ a x => [a, x]
  | .nilCheck x => [x]
  | .bin _ x y => [x, y]
  | .eqB _ x y => [x, y]
  | .eqN _ x => [x]
  | .eqP _ x => [x]
  | .eqS _ x => [x]
  | .eqA _ _ x y => [x, y]
  | .un _ x => [x]
  | .convI _ x => [x]
  | .convS x => [x]
  | .mkIface _ x => [x]
  | .mkFunc _ caps => caps
  | .mkBound _ first => first
  | .mkSlice _ _ _ l c => [l, c]
  | .subS x lo hi => x :: (lo.toList ++ hi.toList)
  | .subV _ x lo hi mx => x :: (lo.toList ++ hi.toList ++ mx.toList)
  | .subA _ _ x lo hi => x :: (lo.toList ++ hi.toList)
  | .fieldAddr _ x => [x]
  | .field _ _ x => [x]
  | .indexAddr _ x i => [x, i]
  | .indexArr _ _ x i => [x, i]
  | .indexS x i => [x, i]
  | .indexA _ _ _ x i => [x, i]
  | .extract x _ => [x]
  | .lenS x => [x]
  | .lenV x => [x]
  | .capV x => [x]
  | .lenC _ x => [x]
  | .maxI x y => [x, y]
  | .minI x y => [x, y]
  | .append _ _ _ x y => [x, y]
  | .clear _ x => [x]
  | .copy _ x y => [x, y]
  | .call _ args => args
  | .callV f args => f :: args
  | .callM _ args => args
  | .callMV f args => f :: args
  | .rangeS x => [x]
  | .nextS x => [x]
  | .convB x => [x]
  | .appendS _ _ x y => [x, y]
  | .eqL _ x y => [x, y]
  | .convR x => [x]
  | .mkMap => []
  | .mapSet _ m k x => [m, k, x]
  | .mapGet _ m k => [m, k]
  | .appendZ _ _ _ x y => [x, y]
  | .bad => []

def SV.refs : SV → List Nat
  | .own id _ => [id]
  | .loc id _ => [id]
  | .eloc id _ _ _ => [id]
  | .view id _ _ _ => [id]
  | .selfN id t nn => [id]
  | .ownT id _ _ => [id]
  | .itr id => [id]
  | .town id _ => [id]
  | .teloc id _ _ _ => [id]
  | _ => []

def callFz (σ : St) : VOp → List Nat
  | .call f args => match callArgs σ (.val (.fn f [])) args with
    | some (_, _, fz) => fz
    | none => []
  | .callV f args => match callArgs σ (val σ f) args with
    | some (_, _, fz) => fz
    | none => []
  | _ => []
def refsL : List SV → List Nat
  | [] => []
  | v :: r => v.refs ++ refsL r
/-- The objects that an operation looks at. -/
def idsOf (σ : St) (op : VOp) (u : Upd) : List Nat :=
  bif op.acts then refsL (op.opds.map (val σ)) ++ u.fz ++ callFz σ op else []

theorem mem_refsL {v : SV} {i : Nat} : ∀ {l : List SV}, v ∈ l → i ∈ v.refs → i ∈ refsL l
  | [], h, _ => by simp at h
  | x :: r, h, hi => by
    simp only [refsL, List.mem_append]
    rcases List.mem_cons.1 h with rfl | h
    · exact .inl hi
    · exact .inr (mem_refsL h hi)

section
variable {objs objs' : List (Nat × Ob)}

theorem okCell_loc {x : SV} (h : ∀ i, i ∈ x.refs → look objs' i = look objs i) : okCell objs' x = okCell objs x := by
  cases x <;> simp only [okCell, SV.refs] at * <;> (try rfl)
  all_goals rw [h _ (by simp)]
theorem cellsOf_loc {x : SV} (h : ∀ i, i ∈ x.refs → look objs' i = look objs i) : cellsOf objs' x = cellsOf objs x := by
  unfold cellsOf
  split
  · rfl
  · rfl
  · rw [okCell_loc h]
theorem toIV0_loc {x : SV} {iv : IV} {fz : List Nat} (hc : toIV0 objs x = some (iv, fz)) (h : ∀ i, i ∈ fz → look objs' i = look objs i) : toIV0 objs' x = some (iv, fz) := by
  cases x <;> simp only [toIV0] at * <;> (try exact hc)
  next id ver =>
    split at hc
    · next cv s rows hl =>
      split at hc
      · next hv =>
        simp only [Option.some.injEq, Prod.mk.injEq] at hc
        obtain ⟨rfl, rfl⟩ := hc
        rw [h id (by simp), hl]
        simp only [hv, if_true]
      · simp at hc
    · simp at hc
  next id ver lo hi =>
    split at hc
    · next cv s rows hl =>
      split at hc
      · next hv =>
        simp only [Option.some.injEq, Prod.mk.injEq] at hc
        obtain ⟨rfl, rfl⟩ := hc
        rw [h id (by simp), hl]
        simp only [hv, if_true]
      · simp at hc
    · simp at hc
  next id ver =>
    split at hc
    · next cv s rows ln hl =>
      split at hc
      · next hv =>
        simp only [Option.some.injEq, Prod.mk.injEq] at hc
        obtain ⟨rfl, rfl⟩ := hc
        rw [h id (by simp), hl]
        simp only [hv, if_true]
      · simp at hc
    · simp at hc
theorem toIVs0_loc : ∀ {xs : List SV} {iv : List IV} {fz : List Nat}, toIVs0 objs xs = some (iv, fz) → (∀ i, i ∈ fz → look objs' i = look objs i) → toIVs0 objs' xs = some (iv, fz)
  | [], _, _, hc, _ => hc
  | x :: r, iv, fz, hc, h => by
    simp only [toIVs0] at hc ⊢
    split at hc
    · next v f vs fs h1 h2 =>
      simp only [Option.some.injEq, Prod.mk.injEq] at hc
      obtain ⟨rfl, rfl⟩ := hc
      rw [toIV0_loc h1 (fun i hi => h i (List.mem_append_left _ hi)), toIVs0_loc h2 (fun i hi => h i (List.mem_append_right _ hi))]
    · simp at hc
theorem toIV1_loc {x : SV} {iv : IV} {fz : List Nat} (hc : toIV1 objs x = some (iv, fz)) (h : ∀ i, i ∈ fz → look objs' i = look objs i) : toIV1 objs' x = some (iv, fz) := by
  unfold toIV1 at hc ⊢
  split at hc
  · next id off =>
    split at hc
    · next cells hl =>
      split at hc
      · next vs fs h1 =>
        simp only [Option.some.injEq, Prod.mk.injEq] at hc
        obtain ⟨rfl, rfl⟩ := hc
        simp only [h id (by simp), hl, toIVs0_loc h1 (fun i hi => h i (List.mem_cons_of_mem _ hi))]
      · simp at hc
    · simp at hc
  · exact toIV0_loc hc h
theorem toIVs1_loc : ∀ {xs : List SV} {iv : List IV} {fz : List Nat}, toIVs1 objs xs = some (iv, fz) → (∀ i, i ∈ fz → look objs' i = look objs i) → toIVs1 objs' xs = some (iv, fz)
  | [], _, _, hc, _ => hc
  | x :: r, iv, fz, hc, h => by
    simp only [toIVs1] at hc ⊢
    split at hc
    · next v f vs fs h1 h2 =>
      simp only [Option.some.injEq, Prod.mk.injEq] at hc
      obtain ⟨rfl, rfl⟩ := hc
      rw [toIV1_loc h1 (fun i hi => h i (List.mem_append_left _ hi)), toIVs1_loc h2 (fun i hi => h i (List.mem_append_right _ hi))]
    · simp at hc
theorem toIV_loc {x : SV} {iv : IV} {fz : List Nat} (hc : toIV objs x = some (iv, fz)) (h : ∀ i, i ∈ fz → look objs' i = look objs i) : toIV objs' x = some (iv, fz) := by
  cases x with
  | ifc t x =>
    simp only [toIV] at hc ⊢
    split at hc
    · next v f h1 =>
      simp only [Option.some.injEq, Prod.mk.injEq] at hc
      obtain ⟨rfl, rfl⟩ := hc
      rw [toIV1_loc h1 h]
    · simp at hc
  | agg cells =>
    simp only [toIV] at hc ⊢
    split at hc
    · next vs fs h1 =>
      simp only [Option.some.injEq, Prod.mk.injEq] at hc
      obtain ⟨rfl, rfl⟩ := hc
      rw [toIVs1_loc h1 h]
    · simp at hc
  | clo f caps =>
    simp only [toIV] at hc ⊢
    split at hc
    · next vs fs h1 =>
      simp only [Option.some.injEq, Prod.mk.injEq] at hc
      obtain ⟨rfl, rfl⟩ := hc
      rw [toIVs1_loc h1 h]
    · simp at hc
  | undef => exact toIV1_loc (x := .undef) hc h
  | anyB => exact toIV1_loc (x := .anyB) hc h
  | selfN a t nn => exact toIV1_loc (x := .selfN a t nn) hc h
  | ownT a b c => exact toIV1_loc (x := .ownT a b c) hc h
  | itr a => exact toIV1_loc (x := .itr a) hc h
  | town a b => exact toIV1_loc (x := .town a b) hc h
  | teloc a b c d => exact toIV1_loc (x := .teloc a b c d) hc h
  | nilT => exact toIV1_loc (x := .nilT) hc h
  | emp a => exact toIV1_loc (x := .emp a) hc h
  | bdl a b => exact toIV1_loc (x := .bdl a b) hc h
  | tup a => exact toIV1_loc (x := .tup a) hc h
  | val v => exact toIV1_loc (x := .val v) hc h
  | nils => exact toIV1_loc (x := .nils) hc h
  | full r => exact toIV1_loc (x := .full r) hc h
  | own a b => exact toIV1_loc (x := .own a b) hc h
  | loc a b => exact toIV1_loc (x := .loc a b) hc h
  | eloc a b c d => exact toIV1_loc (x := .eloc a b c d) hc h
  | view a b c d => exact toIV1_loc (x := .view a b c d) hc h
theorem toIVs_loc : ∀ {xs : List SV} {iv : List IV} {fz : List Nat}, toIVs objs xs = some (iv, fz) → (∀ i, i ∈ fz → look objs' i = look objs i) → toIVs objs' xs = some (iv, fz)
  | [], _, _, hc, _ => hc
  | x :: r, iv, fz, hc, h => by
    simp only [toIVs] at hc ⊢
    split at hc
    · next v f vs fs h1 h2 =>
      simp only [Option.some.injEq, Prod.mk.injEq] at hc
      obtain ⟨rfl, rfl⟩ := hc
      rw [toIV_loc h1 (fun i hi => h i (List.mem_append_left _ hi)), toIVs_loc h2 (fun i hi => h i (List.mem_append_right _ hi))]
    · simp at hc
theorem rowsOf_loc {x : SV} (h : ∀ i, i ∈ x.refs → look objs' i = look objs i) : rowsOf objs' x = rowsOf objs x := by
  cases x with
  | val v => cases v <;> rfl
  | own id ver => simp only [rowsOf, SV.refs] at *; rw [h id (by simp)]
  | view id ver lo hi => simp only [rowsOf, SV.refs] at *; rw [h id (by simp)]
  | town id ver => simp only [rowsOf, SV.refs] at *; rw [h id (by simp)]
  | _ => rfl
theorem lnOf_loc {x : SV} (h : ∀ i, i ∈ x.refs → look objs' i = look objs i) : lnOf objs' x = lnOf objs x := by
  cases x with
  | town id ver => simp only [lnOf, SV.refs] at *; rw [h id (by simp)]
  | _ => rfl
end

section
variable {σ σ' : St}

theorem fillSV_loc : ∀ {parts : List (Nat × Nat × Opd)} {cells : List SV}, (∀ x ∈ parts.map (·.2.2), val σ' x = val σ x) → (∀ i, i ∈ refsL ((parts.map (·.2.2)).map (val σ)) → look σ'.objs i = look σ.objs i) →
    fillSV σ'.objs σ' cells parts = fillSV σ.objs σ cells parts
  | [], _, _, _ => rfl
  | (off, s, x) :: r, cells, hv, hl => by
    simp only [fillSV]
    have h1 : val σ' x = val σ x := hv x (by simp)
    rw [h1, cellsOf_loc (objs := σ.objs) (objs' := σ'.objs) (fun i hi => hl i (by simp only [List.map_cons, refsL, List.mem_append]; exact .inl hi))]
    split
    · next cs _ =>
      split
      · exact fillSV_loc (fun y hy => hv y (by simp only [List.map_cons]; exact List.mem_cons_of_mem _ hy)) (fun i hi => hl i (by simp only [List.map_cons, refsL, List.mem_append]; exact .inr hi))
      · rfl
    · rfl

theorem evLoad_loc {g : Option Nat} {x : SV} (h : ∀ i, i ∈ x.refs → look σ'.objs i = look σ.objs i) : evLoad σ' g x = evLoad σ g x := by
  cases x with
  | val v => cases v <;> rfl
  | loc id off => simp only [evLoad, SV.refs] at *; rw [h _ (by simp)]
  | eloc id ver i off => simp only [evLoad, SV.refs] at *; rw [h _ (by simp)]
  | teloc id ver i off => simp only [evLoad, SV.refs] at *; rw [h _ (by simp)]
  | _ => rfl

theorem evStore_loc {n : Nat} {a x : SV} {u : Upd} (hu : evStore σ n a x = some u) (h1 : ∀ i, i ∈ a.refs → look σ'.objs i = look σ.objs i) (h2 : ∀ i, i ∈ x.refs → look σ'.objs i = look σ.objs i) (h3 : ∀ i, i ∈ u.fz → look σ'.objs i = look σ.objs i)
    (hro : ∀ id o, u.wr = some (id, o) → id ∈ σ'.ro → id ∈ σ.ro) : evStore σ' n a x = some u := by
  unfold evStore at hu ⊢
  rw [cellsOf_loc h2]
  split at hu
  · simp at hu
  · next cs hcs =>
    split at hu
    · next id off =>
      split at hu
      · next cells hl =>
        split at hu
        · simp at hu
        · next hr =>
          obtain rfl := Option.some.inj hu
          simp only [h1 id (by simp [SV.refs]), hl]
          rw [if_neg]
          intro hr'
          exact hr (by simpa using hro id _ rfl (by simpa using hr'))
      · simp at hu
    · next id ver i off =>
      split at hu
      · next cv s rows vs fz hl hv =>
        split at hu
        · simp at hu
        · next hr =>
          split at hu
          · next hver =>
            split at hu
            · next row hrow =>
              obtain rfl := Option.some.inj hu
              simp only [h1 id (by simp [SV.refs]), hl, toIVs1_loc hv h3]
              rw [if_neg]
              · simp only [hver, if_true, hrow]
              · simp only [Bool.or_eq_true, List.contains_iff_mem, not_or] at hr ⊢
                exact ⟨fun hr' => hr.1 (hro id _ rfl hr'), hr.2⟩
            · simp at hu
          · simp at hu
      · simp at hu
    · next id ver i off =>
      split at hu
      · next cv s rows ln vs fz hl hv =>
        split at hu
        · simp at hu
        · next hr =>
          split at hu
          · next hver =>
            split at hu
            · next row hrow =>
              obtain rfl := Option.some.inj hu
              simp only [h1 id (by simp [SV.refs]), hl, toIVs1_loc hv h3]
              rw [if_neg]
              · simp only [hver, if_true, hrow]
              · simp only [Bool.or_eq_true, List.contains_iff_mem, not_or] at hr ⊢
                exact ⟨fun hr' => hr.1 (hro id _ rfl hr'), hr.2⟩
            · simp at hu
          · simp at hu
      · simp at hu
    · simp at hu

theorem callArgs_loc {f : SV} {args : List Opd} {k : FuncId} {ivs : List IV} {fz : List Nat} (h : callArgs σ f args = some (k, ivs, fz)) (hv : ∀ x ∈ args, val σ' x = val σ x) (hl : ∀ i, i ∈ fz → look σ'.objs i = look σ.objs i) : callArgs σ' f args = some (k, ivs, fz) := by
  unfold callArgs at h ⊢
  have e : args.map (val σ') = args.map (val σ) := List.map_congr_left hv
  rw [e]
  split at h
  · next k' caps f1 ivs' f2 h1 h2 =>
    simp only [Option.some.injEq, Prod.mk.injEq] at h
    obtain ⟨rfl, rfl, rfl⟩ := h
    rw [toIV_loc h1 (fun i hi => hl i (List.mem_append_left _ hi)), toIVs_loc h2 (fun i hi => hl i (List.mem_append_right _ hi))]
  · next k' first f1 ivs' f2 h1 h2 =>
    simp only [Option.some.injEq, Prod.mk.injEq] at h
    obtain ⟨rfl, rfl, rfl⟩ := h
    rw [toIV_loc h1 (fun i hi => hl i (List.mem_append_left _ hi)), toIVs_loc h2 (fun i hi => hl i (List.mem_append_right _ hi))]
  · simp at h

theorem bound_loc {n : Nat} {x : Option Opd} (h : ∀ y ∈ x.toList, val σ' y = val σ y) : bound σ' n x = bound σ n x := by
  cases x with
  | none => rfl
  | some y => simp only [bound]; rw [h y (by simp)]

theorem ev_loc {dst : Option Nat} {op : VOp} {u : Upd} (hu : ev σ dst op = some u) (hv : ∀ x ∈ op.opds, val σ' x = val σ x) (hl : ∀ i, i ∈ idsOf σ op u → look σ'.objs i = look σ.objs i)
    (hro : ∀ id o, u.wr = some (id, o) → id ∈ σ'.ro → id ∈ σ.ro) : ev σ' dst op = some u := by
  have hr : op.acts = true → ∀ x ∈ op.opds, ∀ i, i ∈ (val σ x).refs → look σ'.objs i = look σ.objs i := by
    intro ha x hx i hi
    refine hl i ?_
    simp only [idsOf, ha, cond_true, List.mem_append]
    exact .inl (.inl (mem_refsL (List.mem_map_of_mem hx) hi))
  have hfz : op.acts = true → ∀ i, i ∈ u.fz → look σ'.objs i = look σ.objs i := by
    intro ha i hi
    refine hl i ?_
    simp only [idsOf, ha, cond_true, List.mem_append]
    exact .inl (.inr hi)
  cases op
  case build zero parts =>
    simp only [ev] at hu ⊢
    rw [fillSV_loc (σ := σ) hv (fun i hi => hl i (by simp only [idsOf, VOp.acts, cond_true, List.mem_append]; exact .inl (.inl hi)))]
    exact hu
  case buildSlice s n zero parts =>
    simp only [ev] at hu ⊢
    rw [fillSV_loc (σ := σ) hv (fun i hi => hl i (by simp only [idsOf, VOp.acts, cond_true, List.mem_append]; exact .inl (.inl hi)))]
    split at hu
    · next d cells hd hf =>
      split at hu
      · next vs fz hiv =>
        have hq : u.fz = fz := by
          (repeat' split at hu) <;> obtain rfl := Option.some.inj hu <;> rfl
        have hfz' := hfz rfl
        rw [hq] at hfz'
        simp only [hf, toIVs1_loc hiv hfz']
        exact hu
      · simp at hu
    · simp at hu
  case store n a x =>
    simp only [ev] at hu ⊢
    rw [hv a (by simp [VOp.opds]), hv x (by simp [VOp.opds])]
    exact evStore_loc hu (hr rfl a (by simp [VOp.opds])) (hr rfl x (by simp [VOp.opds])) (hfz rfl) hro
  case load g x =>
    simp only [ev] at hu ⊢
    rw [hv x (by simp [VOp.opds]), evLoad_loc (hr rfl x (by simp [VOp.opds]))]
    exact hu
  case box x =>
    simp only [ev] at hu ⊢
    rw [hv x (by simp [VOp.opds]), cellsOf_loc (hr rfl x (by simp [VOp.opds]))]
    exact hu
  case eqS neg x =>
    simp only [ev] at hu ⊢
    rw [hv x (by simp [VOp.opds]), rowsOf_loc (hr rfl x (by simp [VOp.opds]))]
    exact hu
  case lenV x =>
    simp only [ev] at hu ⊢
    have hx := hr rfl x (by simp [VOp.opds])
    rw [hv x (by simp [VOp.opds]), rowsOf_loc hx]
    cases hxx : val σ x with
    | view id ver lo hi =>
      rw [hxx] at hx hu
      simp only [hx id (by simp [SV.refs])]
      exact hu
    | _ => rw [hxx] at hu; exact hu
  case subV s x lo hi mx =>
    simp only [ev] at hu ⊢
    have hx := hr rfl x (by simp [VOp.opds])
    rw [hv x (by simp [VOp.opds]), rowsOf_loc hx]
    have b1 : ∀ n, bound σ' n lo = bound σ n lo := fun n => bound_loc (fun y hy => hv y (by simp only [VOp.opds, List.mem_cons, List.mem_append]; exact .inr (.inl (.inl hy))))
    have b2 : ∀ n, bound σ' n hi = bound σ n hi := fun n => bound_loc (fun y hy => hv y (by simp only [VOp.opds, List.mem_cons, List.mem_append]; exact .inr (.inl (.inr hy))))
    have sub : ∀ a b c d e f, evSub σ' s a b c d e f lo hi mx = evSub σ s a b c d e f lo hi mx := by
      intro a b c d e f
      simp only [evSub, b1, b2]
      cases mx with
      | none => rfl
      | some m =>
        have : val σ' m = val σ m := hv m (by simp [VOp.opds])
        simp only [this]
    cases hxx : val σ x with
    | own id ver =>
      rw [hxx] at hx hu
      simp only [hx id (by simp [SV.refs]), sub]
      exact hu
    | view id ver lo0 hi0 =>
      rw [hxx] at hx hu
      simp only [hx id (by simp [SV.refs]), sub]
      exact hu
    | _ =>
      rw [hxx] at hu
      simp only [b1, b2]
      cases mx with
      | none => exact hu
      | some m =>
        have : val σ' m = val σ m := hv m (by simp [VOp.opds])
        simp only [this]
        exact hu
  case subA s n x lo hi =>
    simp only [ev] at hu ⊢
    have hx := hr rfl x (by simp [VOp.opds])
    have b1 : ∀ n, bound σ' n lo = bound σ n lo := fun n => bound_loc (fun y hy => hv y (by simp only [VOp.opds, List.mem_cons, List.mem_append]; exact .inr (.inl hy)))
    have b2 : ∀ n, bound σ' n hi = bound σ n hi := fun n => bound_loc (fun y hy => hv y (by simp only [VOp.opds, List.mem_cons, List.mem_append]; exact .inr (.inr hy)))
    rw [hv x (by simp [VOp.opds])]
    split at hu
    · next cells fz hc =>
      split at hu
      · next l r bl bh =>
        obtain rfl := Option.some.inj hu
        rw [toIV1_loc hc (fun i hi => hfz rfl i hi), b1, b2, bl, bh]
      · simp at hu
    · simp at hu
  case subS x lo hi =>
    simp only [ev] at hu ⊢
    rw [hv x (by simp [VOp.opds])]
    have b1 : ∀ n, bound σ' n lo = bound σ n lo := fun n => bound_loc (fun y hy => hv y (by simp only [VOp.opds, List.mem_cons, List.mem_append]; exact .inr (.inl hy)))
    have b2 : ∀ n, bound σ' n hi = bound σ n hi := fun n => bound_loc (fun y hy => hv y (by simp only [VOp.opds, List.mem_cons, List.mem_append]; exact .inr (.inr hy)))
    simp only [b1, b2]
    exact hu
  case append e s bytes x y =>
    simp only [ev] at hu ⊢
    have hx := hr rfl x (by simp [VOp.opds])
    rw [hv x (by simp [VOp.opds]), hv y (by simp [VOp.opds]), rowsOf_loc (hr rfl y (by simp [VOp.opds])), lnOf_loc (hr rfl y (by simp [VOp.opds]))]
    split at hu
    · simp at hu
    · next new rd hrows =>
      cases hxx : val σ x with
      | own id ver =>
        rw [hxx] at hx hu
        simp only [hx id (by simp [SV.refs])]
        exact hu
      | town id ver =>
        rw [hxx] at hx hu
        simp only [hx id (by simp [SV.refs])]
        simp only at hu
        split at hu
        · next cv s' rows ln hl =>
          split at hu
          · next hc =>
            simp only [Bool.and_eq_true, Bool.not_eq_true'] at hc
            obtain rfl := Option.some.inj hu
            have : σ'.ro.contains id = false := by
              cases hcc : σ'.ro.contains id with
              | false => rfl
              | true =>
                have h1 := hro id _ rfl (by simpa using hcc)
                have h2 : id ∉ σ.ro := by simpa using hc.2
                exact absurd h1 h2
            rw [if_pos (by simp only [hc.1.1, hc.1.2, this]; rfl)]
          · simp at hu
        · simp at hu
      | ownT id ver ty =>
        rw [hxx] at hx hu
        simp only [hx id (by simp [SV.refs])]
        exact hu
      | view id ver lo hi =>
        rw [hxx] at hx hu
        simp only [hx id (by simp [SV.refs])]
        simp only at hu
        split at hu
        · next cv s' rows hl =>
          split at hu
          · next hc =>
            simp only [Bool.and_eq_true, Bool.not_eq_true'] at hc
            have hro' : ∀ (ob : Ob), u.wr = some (id, ob) → σ'.ro.contains id = false := by
              intro ob hob
              cases hcc : σ'.ro.contains id with
              | false => rfl
              | true =>
                have h1 := hro id ob hob (by simpa using hcc)
                have h2 : id ∉ σ.ro := by simpa using hc.2
                exact absurd h1 h2
            split at hu
            · split at hu
              · split at hu
                · next hid =>
                  have h3 := hu
                  obtain rfl := Option.some.inj hu
                  rw [if_pos (by simp only [hc.1.1, hc.1.2, hro' _ rfl]; rfl)]
                  simp_all
                · simp at hu
              · simp at hu
            · have h3 := hu
              obtain rfl := Option.some.inj hu
              rw [if_pos (by simp only [hc.1.1, hc.1.2, hro' _ rfl]; rfl)]
              simp_all
          · simp at hu
        · simp at hu
      | _ => rw [hxx] at hu; first | exact hu | (simp at hu; done)
  case clear zero x =>
    simp only [ev] at hu ⊢
    have hx := hr rfl x (by simp [VOp.opds])
    rw [hv x (by simp [VOp.opds])]
    split at hu
    · simp at hu
    · next z hz =>
      cases hxx : val σ x with
      | own id ver =>
        rw [hxx] at hx hu
        simp only [hx id (by simp [SV.refs])]
        simp only at hu
        split at hu
        · next cv s' rows hl =>
          split at hu
          · next hc =>
            simp only [Bool.and_eq_true, Bool.not_eq_true'] at hc
            obtain rfl := Option.some.inj hu
            rw [if_pos]
            have : σ'.ro.contains id = false := by
              cases hcc : σ'.ro.contains id with
              | false => rfl
              | true =>
                have h1 := hro id _ rfl (by simpa using hcc)
                have h2 : id ∉ σ.ro := by simpa using hc.2
                exact absurd h1 h2
            simp only [hc.1, this]; rfl
          · simp at hu
        · simp at hu
      | view id ver lo hi =>
        rw [hxx] at hx hu
        simp only [hx id (by simp [SV.refs])]
        simp only at hu
        split at hu
        · next cv s' rows hl =>
          split at hu
          · next hc =>
            simp only [Bool.and_eq_true, Bool.not_eq_true'] at hc
            obtain rfl := Option.some.inj hu
            rw [if_pos]
            have : σ'.ro.contains id = false := by
              cases hcc : σ'.ro.contains id with
              | false => rfl
              | true =>
                have h1 := hro id _ rfl (by simpa using hcc)
                have h2 : id ∉ σ.ro := by simpa using hc.2
                exact absurd h1 h2
            simp only [hc.1, this]; rfl
          · simp at hu
        · simp at hu
      | _ => rw [hxx] at hu; exact hu
  case copy s x y =>
    simp only [ev] at hu ⊢
    have hx := hr rfl x (by simp [VOp.opds])
    rw [hv x (by simp [VOp.opds]), hv y (by simp [VOp.opds]), rowsOf_loc (hr rfl y (by simp [VOp.opds]))]
    split at hu
    · simp at hu
    · next new rd hrows =>
      cases hxx : val σ x with
      | own id ver =>
        rw [hxx] at hx hu
        simp only [hx id (by simp [SV.refs])]
        simp only at hu
        split at hu
        · next cv s' rows hl =>
          split at hu
          · next hc =>
            simp only [Bool.and_eq_true, Bool.not_eq_true'] at hc
            obtain rfl := Option.some.inj hu
            rw [if_pos]
            have : σ'.ro.contains id = false := by
              cases hcc : σ'.ro.contains id with
              | false => rfl
              | true =>
                have h1 := hro id _ rfl (by simpa using hcc)
                have h2 : id ∉ σ.ro := by simpa using hc.2
                exact absurd h1 h2
            simp only [hc.1, this]; rfl
          · simp at hu
        · simp at hu
      | view id ver lo hi =>
        rw [hxx] at hx hu
        simp only [hx id (by simp [SV.refs])]
        simp only at hu
        split at hu
        · next cv s' rows hl =>
          split at hu
          · next hc =>
            simp only [Bool.and_eq_true, Bool.not_eq_true'] at hc
            obtain rfl := Option.some.inj hu
            rw [if_pos]
            have : σ'.ro.contains id = false := by
              cases hcc : σ'.ro.contains id with
              | false => rfl
              | true =>
                have h1 := hro id _ rfl (by simpa using hcc)
                have h2 : id ∉ σ.ro := by simpa using hc.2
                exact absurd h1 h2
            simp only [hc.1, this]; rfl
          · simp at hu
        · simp at hu
      | _ => rw [hxx] at hu; exact hu
  case nilCheck x =>
    simp only [ev] at hu ⊢
    have hx := hr rfl x (by simp [VOp.opds])
    rw [hv x (by simp [VOp.opds])]
    cases hxx : val σ x with
    | loc id off =>
      rw [hxx] at hx hu
      simp only [hx id (by simp [SV.refs])]
      exact hu
    | eloc id ver i o =>
      rw [hxx] at hx hu
      simp only [hx id (by simp [SV.refs])]
      exact hu
    | teloc id ver i o =>
      rw [hxx] at hx hu
      simp only [hx id (by simp [SV.refs])]
      exact hu
    | selfN id t nn =>
      rw [hxx] at hx hu
      cases nn
      · exact hu
      · simp only [hx id (by simp [SV.refs])]
        exact hu
    | val v => rw [hxx] at hu; cases v <;> exact hu
    | _ => rw [hxx] at hu; exact hu
  case nextS x =>
    simp only [ev] at hu ⊢
    have hx := hr rfl x (by simp [VOp.opds])
    rw [hv x (by simp [VOp.opds])]
    cases hxx : val σ x with
    | itr id =>
      rw [hxx] at hx hu
      simp only [hx id (by simp [SV.refs])]
      exact hu
    | _ => rw [hxx] at hu; exact hu
  case convB x =>
    simp only [ev] at hu ⊢
    rw [hv x (by simp [VOp.opds]), rowsOf_loc (hr rfl x (by simp [VOp.opds]))]
    exact hu
  case appendS e b x y =>
    simp only [ev] at hu ⊢
    have hx := hr rfl x (by simp [VOp.opds])
    rw [hv x (by simp [VOp.opds]), hv y (by simp [VOp.opds])]
    cases hxx : val σ x with
    | own id ver =>
      rw [hxx] at hx hu
      simp only [hx id (by simp [SV.refs])]
      exact hu
    | ownT id ver ty =>
      rw [hxx] at hx hu
      simp only [hx id (by simp [SV.refs])]
      exact hu
    | _ => rw [hxx] at hu; exact hu
  case eqL neg x y =>
    simp only [ev] at hu ⊢
    have hx := hr rfl x (by simp [VOp.opds])
    rw [hv x (by simp [VOp.opds]), hv y (by simp [VOp.opds])]
    split at hu
    · next id off id' off' h1 h2 =>
      rw [h1] at hx
      simp only [hx id (by simp [SV.refs])]
      exact hu
    · simp at hu
  case rangeS x => simp only [ev] at hu ⊢; rw [hv x (by simp [VOp.opds])]; exact hu
  case capV x => simp only [ev] at hu ⊢; rw [hv x (by simp [VOp.opds])]; exact hu
  case convR x => simp only [ev] at hu ⊢; rw [hv x (by simp [VOp.opds])]; exact hu
  case mkMap => exact hu
  case mapSet ks m k x =>
    simp only [ev] at hu ⊢
    have hx := hr rfl m (by simp [VOp.opds])
    rw [hv m (by simp [VOp.opds]), hv k (by simp [VOp.opds]), hv x (by simp [VOp.opds])]
    split at hu
    · next id kc kk n h1 h2 h3 =>
      rw [h1] at hx
      simp only [hx id (by simp [SV.refs])]
      exact hu
    · simp at hu
  case mapGet ks m k =>
    simp only [ev] at hu ⊢
    have hx := hr rfl m (by simp [VOp.opds])
    rw [hv m (by simp [VOp.opds]), hv k (by simp [VOp.opds])]
    split at hu
    · next id kc h1 h2 =>
      rw [h1] at hx
      simp only [hx id (by simp [SV.refs])]
      exact hu
    · simp at hu
  case appendZ s b z x y => simp only [ev] at hu ⊢; rw [hv x (by simp [VOp.opds]), hv y (by simp [VOp.opds])]; exact hu
  case bad => simp [ev] at hu
  case eqP neg x =>
    simp only [ev] at hu ⊢
    have hx := hr rfl x (by simp [VOp.opds])
    rw [hv x (by simp [VOp.opds])]
    cases hxx : val σ x with
    | loc id off =>
      rw [hxx] at hx hu
      simp only [hx id (by simp [SV.refs])]
      exact hu
    | val v => rw [hxx] at hu; cases v <;> exact hu
    | _ => rw [hxx] at hu; exact hu
  case fieldAddr off x =>
    simp only [ev] at hu ⊢
    have hx := hr rfl x (by simp [VOp.opds])
    rw [hv x (by simp [VOp.opds])]
    cases hxx : val σ x with
    | loc id o =>
      rw [hxx] at hx hu
      simp only [hx id (by simp [SV.refs])]
      exact hu
    | eloc id ver i o =>
      rw [hxx] at hx hu
      simp only [hx id (by simp [SV.refs])]
      exact hu
    | teloc id ver i o =>
      rw [hxx] at hx hu
      simp only [hx id (by simp [SV.refs])]
      exact hu
    | val v => rw [hxx] at hu; cases v <;> exact hu
    | _ => rw [hxx] at hu; exact hu
  case indexAddr s x i =>
    simp only [ev] at hu ⊢
    have hx := hr rfl x (by simp [VOp.opds])
    rw [hv x (by simp [VOp.opds]), hv i (by simp [VOp.opds])]
    cases hxx : val σ x with
    | own id ver =>
      rw [hxx] at hx hu
      simp only [hx id (by simp [SV.refs])]
      exact hu
    | town id ver =>
      rw [hxx] at hx hu
      simp only [hx id (by simp [SV.refs])]
      exact hu
    | view id ver lo hi =>
      rw [hxx] at hx hu
      simp only [hx id (by simp [SV.refs])]
      exact hu
    | val v => rw [hxx] at hu; cases v <;> exact hu
    | _ => rw [hxx] at hu; exact hu
  case indexArr len s x i =>
    simp only [ev] at hu ⊢
    have hx := hr rfl x (by simp [VOp.opds])
    rw [hv x (by simp [VOp.opds]), hv i (by simp [VOp.opds])]
    cases hxx : val σ x with
    | loc id o =>
      rw [hxx] at hx hu
      cases hii : val σ i with
      | val iv =>
        rw [hii] at hu
        cases iv with
        | int k n =>
          simp only [hx id (by simp [SV.refs])]
          exact hu
        | _ => simp at hu
      | _ => rw [hii] at hu; simp at hu
    | val v =>
      rw [hxx] at hu
      generalize val σ i = y at hu ⊢
      cases y with
      | val iv => cases v <;> cases iv <;> exact hu
      | _ => cases v <;> exact hu
    | _ => rw [hxx] at hu; exact hu
  case mkFunc f caps =>
    simp only [ev] at hu ⊢
    have e : caps.map (val σ') = caps.map (val σ) := List.map_congr_left hv
    rw [e]
    exact hu
  case mkBound f first =>
    simp only [ev] at hu ⊢
    have e : first.map (val σ') = first.map (val σ) := List.map_congr_left hv
    rw [e]
    exact hu
  case call => simp [ev] at hu
  case callV => simp [ev] at hu
  case alloc => exact hu
  case allocB => exact hu
  case lenC => exact hu
  case un op x =>
    simp only [ev] at hu ⊢
    rw [hv x (by simp [VOp.opds])]
    exact hu
  case move x => simp only [ev] at hu ⊢; rw [hv x (by simp [VOp.opds])]; exact hu
  case pick c x y => simp only [ev] at hu ⊢; rw [hv c (by simp [VOp.opds]), hv x (by simp [VOp.opds]), hv y (by simp [VOp.opds])]; exact hu
  case bin op x y => simp only [ev] at hu ⊢; rw [hv x (by simp [VOp.opds]), hv y (by simp [VOp.opds])]; exact hu
  case eqB neg x y => simp only [ev] at hu ⊢; rw [hv x (by simp [VOp.opds]), hv y (by simp [VOp.opds])]; exact hu
  case eqN neg x => simp only [ev] at hu ⊢; rw [hv x (by simp [VOp.opds])]; exact hu
  case eqA neg ks x y => simp only [ev] at hu ⊢; rw [hv x (by simp [VOp.opds]), hv y (by simp [VOp.opds])]; exact hu
  case convI k x => simp only [ev] at hu ⊢; rw [hv x (by simp [VOp.opds])]; exact hu
  case convS x => simp only [ev] at hu ⊢; rw [hv x (by simp [VOp.opds])]; exact hu
  case mkIface t x => simp only [ev] at hu ⊢; rw [hv x (by simp [VOp.opds])]; exact hu
  case mkSlice s b z l c => simp only [ev] at hu ⊢; rw [hv l (by simp [VOp.opds]), hv c (by simp [VOp.opds])]; exact hu
  case field off g x => simp only [ev] at hu ⊢; rw [hv x (by simp [VOp.opds])]; exact hu
  case indexS x i => simp only [ev] at hu ⊢; rw [hv x (by simp [VOp.opds]), hv i (by simp [VOp.opds])]; exact hu
  case indexA len s g x i => simp only [ev] at hu ⊢; rw [hv x (by simp [VOp.opds]), hv i (by simp [VOp.opds])]; exact hu
  case extract x i => simp only [ev] at hu ⊢; rw [hv x (by simp [VOp.opds])]; exact hu
  case lenS x => simp only [ev] at hu ⊢; rw [hv x (by simp [VOp.opds])]; exact hu
  case maxI x y => simp only [ev] at hu ⊢; rw [hv x (by simp [VOp.opds]), hv y (by simp [VOp.opds])]; exact hu
  case minI x y => simp only [ev] at hu ⊢; rw [hv x (by simp [VOp.opds]), hv y (by simp [VOp.opds])]; exact hu
  case callM f args => simp [ev] at hu
  case callMV f args => simp [ev] at hu

theorem opRel_loc {P : Program} {dst : Option Nat} {op : VOp} {u : Upd} (hgl : σ'.gl = σ.gl) (hu : OpRel P σ dst u op) (hv : ∀ x ∈ op.opds, val σ' x = val σ x) (hl : ∀ i, i ∈ idsOf σ op u → look σ'.objs i = look σ.objs i)
    (hro : ∀ id o, u.wr = some (id, o) → id ∈ σ'.ro → id ∈ σ.ro) : OpRel P σ' dst u op ∧ idsOf σ' op u = idsOf σ op u := by
  have heq : op.opds.map (val σ') = op.opds.map (val σ) := List.map_congr_left hv
  cases op
  case call f args =>
    obtain ⟨k, ivs, fz, r, h1, h2, h3⟩ := hu
    have h4 := callArgs_loc (σ' := σ') h1 hv (fun i hi => hl i (by simp only [idsOf, VOp.acts, cond_true, List.mem_append, callFz, h1]; exact .inr hi))
    refine ⟨⟨k, ivs, fz, r, h4, by rw [hgl]; exact h2, h3⟩, ?_⟩
    simp only [idsOf, heq, callFz, h1, h4]
  case callV f args =>
    obtain ⟨k, ivs, fz, r, h1, h2, h3⟩ := hu
    have hf : val σ' f = val σ f := hv f (by simp [VOp.opds])
    have h4 := callArgs_loc (σ' := σ') h1 (fun x hx => hv x (by simp [VOp.opds, hx])) (fun i hi => hl i (by simp only [idsOf, VOp.acts, cond_true, List.mem_append, callFz, h1]; exact .inr hi))
    refine ⟨⟨k, ivs, fz, r, by rw [hf]; exact h4, by rw [hgl]; exact h2, h3⟩, ?_⟩
    simp only [idsOf, heq, callFz, h1, hf, h4]
  all_goals exact ⟨⟨ev_loc hu.1 hv hl hro, hu.2⟩, by simp only [idsOf, heq, callFz]⟩

/-- What writes, and what makes, by its kind. -/
theorem opRel_kind {P : Program} {dst : Option Nat} {op : VOp} {u : Upd} (hu : OpRel P σ dst u op) : (u.wr ≠ none → op.writes = true) ∧ (u.new ≠ none → op.makes = true) := by
  cases op
  case call f args => 
    obtain ⟨k, ivs, fz, r, h1, h2, h3⟩ := hu
    refine ⟨fun h => ?_, fun _ => rfl⟩
    exfalso; apply h
    unfold callUpd at h3
    split at h3
    · obtain rfl := Option.some.inj h3; rfl
    · split at h3
      · obtain rfl := Option.some.inj h3; rfl
      · simp at h3
  case callV f args =>
    obtain ⟨k, ivs, fz, r, h1, h2, h3⟩ := hu
    refine ⟨fun h => ?_, fun _ => rfl⟩
    exfalso; apply h
    unfold callUpd at h3
    split at h3
    · obtain rfl := Option.some.inj h3; rfl
    · split at h3
      · obtain rfl := Option.some.inj h3; rfl
      · simp at h3
  case append => 
    exact ⟨fun _ => rfl, fun _ => rfl⟩
  case store n a x =>
    refine ⟨fun _ => rfl, fun h => ?_⟩
    exfalso; apply h
    have hu := hu.1
    simp only [ev, evStore] at hu
    (repeat' split at hu) <;> first | (simp at hu; done) | (obtain rfl := Option.some.inj hu; rfl)
  case alloc => 
    refine ⟨fun h => ?_, fun _ => rfl⟩
    exfalso; apply h
    have hu := hu.1
    simp only [ev] at hu
    (repeat' split at hu) <;> first | (simp at hu; done) | (obtain rfl := Option.some.inj hu; rfl)
  case allocB => 
    refine ⟨fun h => ?_, fun _ => rfl⟩
    exfalso; apply h
    have hu := hu.1
    simp only [ev] at hu
    (repeat' split at hu) <;> first | (simp at hu; done) | (obtain rfl := Option.some.inj hu; rfl)
  case box =>
    refine ⟨fun h => ?_, fun _ => rfl⟩
    exfalso; apply h
    have hu := hu.1
    simp only [ev] at hu
    (repeat' split at hu) <;> first | (simp at hu; done) | (obtain rfl := Option.some.inj hu; rfl)
  case buildSlice =>
    refine ⟨fun h => ?_, fun _ => rfl⟩
    exfalso; apply h
    have hu := hu.1
    simp only [ev] at hu
    (repeat' split at hu) <;> first | (simp at hu; done) | (obtain rfl := Option.some.inj hu; rfl)
  case mkSlice =>
    refine ⟨fun h => ?_, fun _ => rfl⟩
    exfalso; apply h
    have hu := hu.1
    simp only [ev] at hu
    (repeat' split at hu) <;> first | (simp at hu; done) | (obtain rfl := Option.some.inj hu; rfl)
  case rangeS =>
    refine ⟨fun h => ?_, fun _ => rfl⟩
    exfalso; apply h
    have hu := hu.1
    simp only [ev] at hu
    (repeat' split at hu) <;> first | (simp at hu; done) | (obtain rfl := Option.some.inj hu; rfl)
  case mkMap =>
    refine ⟨fun h => ?_, fun _ => rfl⟩
    exfalso; apply h
    have hu := hu.1
    simp only [ev] at hu
    (repeat' split at hu) <;> first | (simp at hu; done) | (obtain rfl := Option.some.inj hu; rfl)
  case appendZ =>
    refine ⟨fun h => ?_, fun _ => rfl⟩
    exfalso; apply h
    have hu := hu.1
    simp only [ev] at hu
    (repeat' split at hu) <;> first | (simp at hu; done) | (obtain rfl := Option.some.inj hu; rfl)
  case mapSet =>
    refine ⟨fun _ => rfl, fun h => ?_⟩
    exfalso; apply h
    have hu := hu.1
    simp only [ev] at hu
    (repeat' split at hu) <;> first | (simp at hu; done) | (obtain rfl := Option.some.inj hu; rfl)
  case nextS =>
    refine ⟨fun _ => rfl, fun h => ?_⟩
    exfalso; apply h
    have hu := hu.1
    simp only [ev] at hu
    (repeat' split at hu) <;> first | (simp at hu; done) | (obtain rfl := Option.some.inj hu; rfl)
  case appendS =>
    refine ⟨fun _ => rfl, fun h => ?_⟩
    exfalso; apply h
    have hu := hu.1
    simp only [ev] at hu
    (repeat' split at hu) <;> first | (simp at hu; done) | (obtain rfl := Option.some.inj hu; rfl)
  case clear =>
    refine ⟨fun _ => rfl, fun h => ?_⟩
    exfalso; apply h
    have hu := hu.1
    simp only [ev] at hu
    (repeat' split at hu) <;> first | (simp at hu; done) | (obtain rfl := Option.some.inj hu; rfl)
  case copy =>
    refine ⟨fun _ => rfl, fun h => ?_⟩
    exfalso; apply h
    have hu := hu.1
    simp only [ev] at hu
    (repeat' split at hu) <;> first | (simp at hu; done) | (obtain rfl := Option.some.inj hu; rfl)
  all_goals
    have hu := hu.1
    refine ⟨fun h => ?_, fun h => ?_⟩ <;> exfalso <;> apply h
    all_goals
      simp only [ev, evLoad, evPart, evSub, binI, binS] at hu
      first
        | (obtain rfl := Option.some.inj hu; rfl)
        | ((repeat' split at hu) <;> first | (simp at hu; done) | (obtain rfl := Option.some.inj hu; rfl))

end
end Go.Vs
