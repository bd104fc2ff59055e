/- Value semantics, part 11: appends hold what the evaluator says. No conditions. -/
import Derived.Test.YtjfleklkloohgaaVs10
set_option linter.unusedVariables false
set_option linter.unusedSimpArgs false
namespace Go.Vs

section
variable {P : Program} {w0 w : World} {S0 S : Stab} {M : Ctx} {σ : St} {a : Act} {μ : Nat → Value} {β : Nat → Option Nat} {o : Oper}

theorem append_grow {ats : Array TypeId} {t t' e e' ty : TypeId} {i : TypeInfo} {z : Value} (h0 : ats[0]? = some t) (h1 : ats[1]? = some t') (ht : P.underlying t = some (.slice e)) (ht' : P.underlying t' = some (.slice e')) (hi : P.info? e = some i) (hz : i.zero = some z)
    {base ad : Option Addr} {sLen sCap m c : Nat} {olds news : Array Value} (ho : (Builtin.firstCells i.size sLen (.slice base sLen sCap)).run P w.drew = .ok olds w.drew) (hn : (Builtin.firstCells i.size m (.slice ad m c)).run P w.drew = .ok news w.drew)
    (hg : sCap < sLen + m) (h63 : sLen + m ≤ 9223372036854775807) (hfit : (sLen + m) * i.bytes ≤ 140737488355328) :
    (Builtin.append_ ats ty #[.slice base sLen sCap, .slice ad m c]).run P w =
      .ok (.slice (some ⟨w.heap.size, 0, none⟩) (sLen + m) (grownCap w (sLen + m) sCap e)) (w.drew.alloc (.cells (olds ++ news ++ Builtin.zeroCells z.cells (grownCap w (sLen + m) sCap e - (sLen + m))) e)) := by
  have hf := growslice_fits hg hfit
  have hn1 : ¬ (sLen + m ≤ sCap) := by omega
  have h63' : ¬ (9223372036854775807 < ((sLen : Int) + (m : Int))) := by omega
  have h48' : ¬ (281474976710656 < Builtin.nextslicecap (sLen + m) sCap * i.bytes) := by omega
  simp [Builtin.append_, h0, h1, run_underlying ht, run_underlying ht', sizeOf, typeInfo, zeroValue, hi, hz, Builtin.lenOf, hn1, h63', h48', Question.forced, ho, hn, newRow, grownCap]

theorem append_room {ats : Array TypeId} {t t' e e' ty : TypeId} {i : TypeInfo} (h0 : ats[0]? = some t) (h1 : ats[1]? = some t') (ht : P.underlying t = some (.slice e)) (ht' : P.underlying t' = some (.slice e')) (hi : P.info? e = some i)
    {b : Nat} {ad : Option Addr} {sLen sCap m c : Nat} {news : Array Value} (hn : (Builtin.firstCells i.size m (.slice ad m c)).run P w = .ok news w)
    (hg : sLen + m ≤ sCap) {w' : World} (hst : (storeCells ⟨b, sLen * i.size, none⟩ news.toList 0).run P w = .ok () w') :
    (Builtin.append_ ats ty #[.slice (some ⟨b, 0, none⟩) sLen sCap, .slice ad m c]).run P w = .ok (.slice (some ⟨b, 0, none⟩) (sLen + m) sCap) w' := by
  simp [Builtin.append_, h0, h1, run_underlying ht, run_underlying ht', sizeOf, typeInfo, hi, Builtin.lenOf, hg, hn, add_none, hst]

theorem append_none {ats : Array TypeId} {t t' e e' ty : TypeId} {i : TypeInfo} (h0 : ats[0]? = some t) (h1 : ats[1]? = some t') (ht : P.underlying t = some (.slice e)) (ht' : P.underlying t' = some (.slice e')) (hi : P.info? e = some i)
    {base ad : Option Addr} {c : Nat} : (Builtin.append_ ats ty #[.slice base 0 0, .slice ad 0 c]).run P w = .ok (.slice base 0 0) w := by
  have hn : (Builtin.firstCells i.size 0 (.slice ad 0 c)).run P w = .ok #[] w := by
    cases ad with
    | none => simp [Builtin.firstCells]
    | some b => simp [Builtin.firstCells, loadCells, loadCellsFrom]
  cases base with
  | none => simp [Builtin.append_, h0, h1, run_underlying ht, run_underlying ht', sizeOf, typeInfo, hi, Builtin.lenOf, hn]
  | some b => simp [Builtin.append_, h0, h1, run_underlying ht, run_underlying ht', sizeOf, typeInfo, hi, Builtin.lenOf, hn, storeCells]

/-- The cells of what is read of a slice. -/
theorem first_cells {S : Stab} {rows : List (List IV)} {ad : Option Addr} {cap s : Nat} (hr : Rep w S (.slice rows) (.slice ad rows.length cap)) (hl : ∀ r ∈ rows, r.length = s) :
    ∃ vs, RepOnes w S rows.flatten vs ∧ ∀ w' : World, (∀ b o, S b o → w'.cell? ⟨b, o, none⟩ = w.cell? ⟨b, o, none⟩) → (Builtin.firstCells s rows.length (.slice ad rows.length cap)).run P w' = .ok vs.toArray w' := by
  obtain ⟨ad', cap', hv, hle, hc⟩ := hr
  simp only [Value.slice.injEq] at hv
  obtain ⟨rfl, _, rfl⟩ := hv
  by_cases hne : rows = []
  · subst hne
    refine ⟨[], rfl, fun w' _ => ?_⟩
    cases ad with
    | none => simp [Builtin.firstCells]
    | some b => simp [Builtin.firstCells, loadCells, loadCellsFrom]
  · obtain ⟨b, off, s', rfl, hrows⟩ := hc hne
    have hss : s' = s := by
      obtain ⟨row, hrow⟩ := List.exists_mem_of_ne_nil rows hne
      exact (RepRows.lens hrows row hrow).symm.trans (hl row hrow)
    subst hss
    have hcells := RepRows.flat hrows
    obtain ⟨vs, h1, h2⟩ := RepCells.vals hcells
    refine ⟨vs, h1, fun w' hk => ?_⟩
    refine run_firstCells_some (P := P) w' s' rows.length ⟨b, off, none⟩ rows.length cap vs ?_ ?_
    · rw [RepOnes.length h1, flatten_length hl]
    · intro j v hj
      rw [add_none]
      have hlt : j < rows.flatten.length := by
        have := RepOnes.length h1
        rcases Nat.lt_or_ge j rows.flatten.length with hh | hh
        · exact hh
        · rw [List.getElem?_eq_none (by omega)] at hj
          simp at hj
      have hS : S b (off + j) := by
        have hsub : ∀ (xs : List IV) (o : Nat), RepCells w S xs b o → ∀ j, j < xs.length → S b (o + j) := by
          intro xs
          induction xs with
          | nil => intro o _ j hj; simp at hj
          | cons x xs ih =>
            intro o ⟨k1, _, _, k4⟩ j hj
            cases j with
            | zero => exact k1
            | succ j => have := ih (o + 1) k4 j (by simpa using hj); rwa [show o + 1 + j = o + (j + 1) by omega] at this
        exact hsub _ _ hcells j hlt
      rw [hk b (off + j) hS]
      exact h2 j v hj

theorem flatten_take {α : Type} {s : Nat} : ∀ {rows : List (List α)} {k : Nat}, (∀ r ∈ rows, r.length = s) → (rows.take k).flatten = rows.flatten.take (k * s)
  | [], _, _ => by simp
  | r :: rs, 0, _ => by simp
  | r :: rs, k + 1, h => by
    have h1 : r.length = s := h r (by simp)
    rw [List.take_succ_cons, List.flatten_cons, List.flatten_cons, flatten_take (fun x hx => h x (List.mem_cons_of_mem _ hx)), Nat.add_mul, Nat.one_mul, Nat.add_comm, ← h1, List.take_length_add_append]
theorem flatten_drop {α : Type} {s : Nat} : ∀ {rows : List (List α)} {k : Nat}, (∀ r ∈ rows, r.length = s) → (rows.drop k).flatten = rows.flatten.drop (k * s)
  | [], _, _ => by simp
  | r :: rs, 0, _ => by simp
  | r :: rs, k + 1, h => by
    have h1 : r.length = s := h r (by simp)
    rw [List.drop_succ_cons, List.flatten_cons, flatten_drop (fun x hx => h x (List.mem_cons_of_mem _ hx)), Nat.add_mul, Nat.one_mul, Nat.add_comm, ← h1, List.drop_length_add_append]

/-- The cells that a slice's rows stand in, nothing frozen. -/
theorem view_cells (h : SimG w0 S0 M σ a w S μ β) {id cv s lo hi : Nat} {rows : List (List IV)} (hl : look σ.objs id = some (.arr cv s rows)) {v : Value} (hr : SVRel w S μ σ.objs (.view id cv lo hi) v) :
    ∃ ad cap vs, v = .slice ad (hi - lo) cap ∧ RepOnes w S ((rows.take hi).drop lo).flatten vs ∧ ∀ w' : World, w'.heap = w.heap → (Builtin.firstCells s (hi - lo) (.slice ad (hi - lo) cap)).run P w' = .ok vs.toArray w' := by
  obtain ⟨g1, g2, x1, cap, y1, g3, rfl, g5, g6⟩ := (hr _ _ _ hl).2 rfl
  rcases Nat.lt_or_ge lo hi with hlt | hge
  · obtain ⟨b, k1, k2⟩ := g6 (by omega)
    rcases h.objs id _ hl with ⟨z1, _⟩ | ⟨b', cap', us, e, fr, hβ, z2, hh, hf, hsz, hle, hlens, hrep⟩
    · subst z1; simp at g2; omega
    · rw [z2, k1] at g3
      simp only [Value.slice.injEq, Option.some.injEq, Addr.mk.injEq, and_true] at g3
      obtain ⟨rfl, _, rfl⟩ := g3
      have hfl := flatten_length hlens
      have hsl : ∀ r ∈ rows.take hi, r.length = s := fun r hr' => hlens r (List.mem_of_mem_take hr')
      have e1 : ((rows.take hi).drop lo).flatten = (rows.flatten.take (hi * s)).drop (lo * s) := by rw [flatten_drop hsl, flatten_take hlens]
      have hmul : hi * s ≤ rows.length * s := Nat.mul_le_mul_right _ g2
      have hmul' : lo * s ≤ hi * s := Nat.mul_le_mul_right _ g1
      have hcap : rows.length * s ≤ us.size := by rw [hsz]; exact Nat.mul_le_mul_right _ hle
      refine ⟨_, _, ((us.toList.take (rows.length * s)).take (hi * s)).drop (lo * s), rfl, ?_, fun w' hw => ?_⟩
      · rw [e1]; exact RepOnes.drop _ (RepOnes.take _ hrep)
      · rw [k2]
        refine run_firstCells_some (P := P) w' s (hi - lo) ⟨b', lo * s, none⟩ (hi - lo) (cap' - lo) _ ?_ ?_
        · rw [List.length_drop, List.length_take, List.length_take, Nat.sub_mul]; simp; omega
        · intro j v hj
          rw [add_none]
          rw [List.getElem?_drop, List.getElem?_take] at hj
          split at hj
          · rw [List.getElem?_take] at hj
            split at hj
            · have : w'.cell? ⟨b', lo * s + j, none⟩ = w.cell? ⟨b', lo * s + j, none⟩ := World.cell?_of_block (by rw [hw])
              rw [this, cell_row hh, ← Array.getElem?_toList]
              exact hj
            · simp at hj
          · simp at hj
  · have hz : hi - lo = 0 := by omega
    have hnil : (rows.take hi).drop lo = [] := by
      apply List.length_eq_zero_iff.1
      rw [List.length_drop, List.length_take]; omega
    refine ⟨y1, cap - lo, [], rfl, by rw [hnil]; rfl, fun w' _ => ?_⟩
    rw [hz]
    cases y1 with
    | none => simp [Builtin.firstCells]
    | some b => simp [Builtin.firstCells, loadCells, loadCellsFrom]

theorem src_cells (h : SimG w0 S0 M σ a w S μ β) {x : SV} {v : Value} {rows : List (List IV)} {rd : List Nat} (hc : rowsOf σ.objs x = some (rows, rd)) (hr : SVRel w S μ σ.objs x v) {s : Nat} (hs : ∀ r ∈ rows, r.length = s) :
    ∃ ad cap vs, v = .slice ad rows.length cap ∧ RepOnes w S rows.flatten vs ∧ ∀ w' : World, w'.heap = w.heap → (Builtin.firstCells s rows.length (.slice ad rows.length cap)).run P w' = .ok vs.toArray w' := by
  have imm : Rep w S (.slice rows) v → ∃ ad cap vs, v = .slice ad rows.length cap ∧ RepOnes w S rows.flatten vs ∧ ∀ w' : World, w'.heap = w.heap → (Builtin.firstCells s rows.length (.slice ad rows.length cap)).run P w' = .ok vs.toArray w' := by
    intro hrep
    obtain ⟨ad, cap, hv, _, _⟩ := id hrep
    rw [hv] at hrep
    obtain ⟨vs, h1, h2⟩ := first_cells (P := P) hrep hs
    exact ⟨ad, cap, vs, hv, h1, fun w' hw => h2 w' (fun b o _ => World.cell?_of_block (by rw [hw]))⟩
  have stride : ∀ {id cv s' lo hi : Nat} {rows' : List (List IV)}, look σ.objs id = some (.arr cv s' rows') → SVRel w S μ σ.objs (.view id cv lo hi) v → rows = (rows'.take hi).drop lo → ∃ ad cap vs, v = .slice ad rows.length cap ∧ RepOnes w S rows.flatten vs ∧ ∀ w' : World, w'.heap = w.heap → (Builtin.firstCells s rows.length (.slice ad rows.length cap)).run P w' = .ok vs.toArray w' := by
    intro id cv s' lo hi rows' hl hv hrows
    obtain ⟨ad, cap, vs, e1, e2, e3⟩ := view_cells (P := P) h hl hv
    obtain ⟨g1, g2, _⟩ := (hv _ _ _ hl).2 rfl
    have hlen : rows.length = hi - lo := by rw [hrows, List.length_drop, List.length_take]; omega
    rw [← hrows] at e2
    by_cases hne : rows = []
    · subst hne
      have hz : hi - lo = 0 := by simpa using hlen.symm
      refine ⟨ad, cap, [], by rw [e1, hz]; rfl, rfl, fun w' _ => ?_⟩
      cases ad with
      | none => simp [Builtin.firstCells]
      | some b => simp [Builtin.firstCells, loadCells, loadCellsFrom]
    · obtain ⟨row, hrow⟩ := List.exists_mem_of_ne_nil rows hne
      have hss : s' = s := by
        have hm : row ∈ rows' := by rw [hrows] at hrow; exact List.mem_of_mem_take (List.mem_of_mem_drop hrow)
        rcases h.objs id _ hl with ⟨z1, _⟩ | ⟨_, _, _, _, _, _, _, _, _, _, _, hlens, _⟩
        · subst z1; simp at hm
        · rw [← hlens row hm, hs row hrow]
      subst hss
      rw [← hlen] at e1 e3
      exact ⟨ad, cap, vs, e1, e2, e3⟩
  unfold rowsOf at hc
  split at hc
  · simp only [Option.some.injEq, Prod.mk.injEq] at hc
    obtain ⟨rfl, rfl⟩ := hc
    obtain ⟨x, rfl⟩ := hr
    exact imm ⟨x, 0, rfl, Nat.le_refl _, fun hn => absurd rfl hn⟩
  · simp only [Option.some.injEq, Prod.mk.injEq] at hc
    obtain ⟨rfl, rfl⟩ := hc
    exact imm hr.1
  · simp only [Option.some.injEq, Prod.mk.injEq] at hc
    obtain ⟨rfl, rfl⟩ := hc
    exact imm hr
  · next id ver =>
    split at hc
    · next cv s' rows' hl =>
      split at hc
      · next hv =>
        simp only [Option.some.injEq, Prod.mk.injEq] at hc
        obtain ⟨rfl, rfl⟩ := hc
        obtain rfl : ver = cv := by simpa using hv
        exact stride hl (own_view h hl hr) (by simp)
      · simp at hc
    · simp at hc
  · next id ver lo hi =>
    split at hc
    · next cv s' rows' hl =>
      split at hc
      · next hv =>
        simp only [Option.some.injEq, Prod.mk.injEq] at hc
        obtain ⟨rfl, rfl⟩ := hc
        obtain rfl : ver = cv := by simpa using hv
        exact stride hl hr rfl
      · simp at hc
    · simp at hc
  · simp at hc

theorem kept_drew_alloc (w : World) (x : Go.Obj) : Kept (fun _ => False) w (w.drew.alloc x) :=
  ⟨rfl, rfl, rfl, by simp, fun _ hk _ => heap_alloc_lt (w := w.drew) hk⟩

theorem grownCap_ge' (need old : Nat) (e : TypeId) : need ≤ grownCap w need old e := grownCap_ge w need old e

/-- A grown row, as an object. -/
theorem grown_ob {S : Stab} {olds news : List Value} {ro rn : List (List IV)} {e : TypeId} {s : Nat} {z : Value} {ver cap : Nat} {μ : Nat → Value} {objs : List (Nat × Ob)} {w' : World} (hz : z.cells.size = s)
    (h1 : RepOnes w' S ro.flatten olds) (h2 : RepOnes w' S rn.flatten news) (hl1 : ∀ r ∈ ro, r.length = s) (hl2 : ∀ r ∈ rn, r.length = s) (hc : ro.length + rn.length ≤ cap) {b : Nat}
    (hh : w'.heap[b]? = some (.cells (olds.toArray ++ news.toArray ++ Builtin.zeroCells z.cells (cap - (ro.length + rn.length))) e)) :
    ObRel w' S μ objs (some b) (.slice (some ⟨b, 0, none⟩) (ro.length + rn.length) cap) (.arr ver s (ro ++ rn)) := by
  have e1 := RepOnes.length h1
  have e2 := RepOnes.length h2
  rw [flatten_length hl1] at e1
  rw [flatten_length hl2] at e2
  refine .inr ⟨b, cap, _, e, (0, 0), rfl, by rw [List.length_append], hh, NoFrz.zero _, ?_, by rw [List.length_append]; exact hc, ?_, ?_⟩
  · simp only [Array.size_append, List.size_toArray, size_zeroCells, hz, e1, e2]
    rw [← Nat.add_mul, ← Nat.add_mul]
    congr 1; omega
  · intro r hr
    rcases List.mem_append.1 hr with h | h
    · exact hl1 r h
    · exact hl2 r h
  · rw [List.flatten_append]
    have : (olds.toArray ++ news.toArray ++ Builtin.zeroCells z.cells (cap - (ro.length + rn.length))).toList.take ((ro ++ rn).length * s) = olds ++ news := by
      rw [List.length_append, Nat.add_mul, ← e1, ← e2]
      simp only [Array.toList_append]
      rw [List.append_assoc, List.take_length_add_append, List.take_left']
      rfl
    rw [this]
    exact RepOnes.append h1 h2

/-- Rows of an array of the call's own are written over. -/
theorem piece_write (h : SimG w0 S0 M σ a w S μ β) {id cv s : Nat} {rows : List (List IV)} (hl : look σ.objs id = some (.arr cv s rows)) (hro : id ∉ σ.ro) {b cap : Nat} {us : Array Value} {e : TypeId} {fr : Nat × Nat}
    (hβ : β id = some b) (hmu : μ id = .slice (some ⟨b, 0, none⟩) rows.length cap) (hh : w.heap[b]? = some (.cells us e fr)) (hf : NoFrz fr us.size) (hsz : us.size = cap * s) (hle : rows.length ≤ cap) (hlens : ∀ r ∈ rows, r.length = s)
    (hrep : RepOnes w S rows.flatten (us.toList.take (rows.length * s))) {pos : Nat} {rn : List (List IV)} {news : List Value} (hrn : RepOnes w S rn.flatten news) (hln : ∀ r ∈ rn, r.length = s) (hpos : pos + rn.length ≤ rows.length) :
    ∃ w', (storeCells ⟨b, pos * s, none⟩ news 0).run P w = .ok () w' ∧ SimG w0 S0 M { σ with objs := put σ.objs id (.arr cv s (rows.take pos ++ (rn ++ rows.drop (pos + rn.length)))) } a w' S μ β := by
  have hnl := RepOnes.length hrn
  have hfn := flatten_length hln
  have hmul : (pos + rn.length) * s ≤ rows.length * s := Nat.mul_le_mul_right _ hpos
  have hmul2 : rows.length * s ≤ cap * s := Nat.mul_le_mul_right _ hle
  have hadd : (pos + rn.length) * s = pos * s + rn.length * s := Nat.add_mul _ _ _
  obtain ⟨w', vs', r1, r2, r3⟩ := run_storeCells P (off := pos * s) news 0 us w hh hf (by omega) (RepOnes.oneCells hrn)
  refine ⟨w', r1, ?_⟩
  have hkeeps : Keeps S w w' := by
    intro b' off' hS
    have : b' ≠ b := by
      rintro rfl
      exact hro (h.unst id _ b' off' hl hβ hS).1
    exact cell_of_heap (r2.other b' this) off'
  have hlen' : (rows.take pos ++ (rn ++ rows.drop (pos + rn.length))).length = rows.length := by
    simp only [List.length_append, List.length_take, List.length_drop]; omega
  have hss : vs'.size = us.size := by
    have := congrArg List.length r3
    simp only [Array.length_toList, List.length_append, List.length_take, List.length_drop] at this
    omega
  refine h.write hl hβ r2 hro (.inr ⟨cv, s, rows, _, rfl, rfl, hlen'.symm⟩) (x' := .arr cv s (rows.take pos ++ (rn ++ rows.drop (pos + rn.length)))) ?_
  refine .inr ⟨b, cap, vs', e, fr, rfl, by rw [hlen']; exact hmu, r2.here, by rw [hss]; exact hf, by rw [hss]; exact hsz, by rw [hlen']; exact hle, ?_, ?_⟩
  · intro r hr
    rcases List.mem_append.1 hr with hr | hr
    · exact hlens r (List.mem_of_mem_take hr)
    · rcases List.mem_append.1 hr with hr | hr
      · exact hln r hr
      · exact hlens r (List.mem_of_mem_drop hr)
  · rw [hlen', List.flatten_append, List.flatten_append, flatten_take hlens, flatten_drop hlens, r3]
    simp only [Nat.add_zero]
    have huse : us.toList.length = cap * s := by simpa using hsz
    have e2 := splice_take (A := us.toList) (Y := news) (X := pos * s) (s := rn.length * s) (R := rows.length * s) (off := 0) (n := rn.length * s) (by omega) (by omega) (by omega) (by omega)
    simp only [Nat.add_zero, Nat.zero_add, List.take_zero, List.nil_append] at e2
    rw [show pos * s + news.length = pos * s + rn.length * s by omega, e2]
    have e3 : (((us.toList.take (rows.length * s)).drop (pos * s)).take (rn.length * s)).drop (rn.length * s) = [] := by
      apply List.drop_eq_nil_of_le
      rw [List.length_take]; omega
    rw [e3, List.append_nil, List.append_assoc, hadd]
    exact RepOnes.append (RepOnes.mono hkeeps (fun _ _ x => x) _ _ (RepOnes.take _ hrep)) (RepOnes.append (RepOnes.mono hkeeps (fun _ _ x => x) _ _ hrn) (RepOnes.mono hkeeps (fun _ _ x => x) _ _ (RepOnes.drop _ hrep)))

/-- An object is put where it is. -/
theorem put_same (h : SimG w0 S0 M σ a w S μ β) {id : Nat} {x : Ob} (hl : look σ.objs id = some x) : SimG w0 S0 M { σ with objs := put σ.objs id x } a w S μ β :=
  h.drop rfl rfl (fun _ _ _ hi => hi) (fun _ => .inr rfl) (fun j y hj => by
    rw [look_put] at hj
    split at hj
    · next e => subst e; rw [hl]; exact hj
    · exact hj)

theorem append_own (h : SimG w0 S0 M σ a w S μ β) (hd : ∀ d, o.dst = some d → d < σ.n) {ats : Array TypeId} {ty t t' e e' : TypeId} {i : TypeInfo} {z : Value} (h0 : ats[0]? = some t) (h1 : ats[1]? = some t')
    (ht : P.underlying t = some (.slice e)) (ht' : P.underlying t' = some (.slice e')) (hi : P.info? e = some i) (hpos : 0 < i.size) (hbpos : 0 < i.bytes) (hz : i.zero = some z) (hzs : z.cells.size = i.size) {vx vy : Value}
    (hrun : ∀ {v : Value} {w' : World}, (Builtin.append_ ats ty #[vx, vy]).run P w = .ok v w' → (execOp a.eval o).run P w = .ok (.value v) w')
    {id cv : Nat} {rows new : List (List IV)} (hl : look σ.objs id = some (.arr cv i.size rows)) (hvx : vx = μ id) {ad : Option Addr} {cap : Nat} {news : List Value} (hvy : vy = .slice ad new.length cap) (hn0 : RepOnes w S new.flatten news)
    (hn2 : ∀ w' : World, w'.heap = w.heap → (Builtin.firstCells i.size new.length (.slice ad new.length cap)).run P w' = .ok news.toArray w') (hlens : ∀ r ∈ new, r.length = i.size) (hbytes : (rows.length + new.length) * i.bytes ≤ 35184372088832) :
    Does P o a w (fun v w' => Sim w0 S0 M (σ.apply o.dst { v := .own id (cv + 1), wr := some (id, .arr (cv + 1) i.size (rows ++ new)) }) (a.put o.dst v) w') := by
  have small : ∀ n, n * i.bytes ≤ 35184372088832 → n ≤ 9223372036854775807 := by
    intro n hn
    have : n * 1 ≤ n * i.bytes := Nat.mul_le_mul_left _ hbpos
    omega
  have hkal : ∀ (fz : List Nat) (x : Go.Obj), Keeps (Plus S β σ.objs fz) w (w.drew.alloc x) := by
    intro fz x b off hS
    exact cell_of_heap ((kept_drew_alloc w x).block b ((h.freeze fz).stab b off hS) (fun x => x)) off
  have hn1 : RepOnes w (Plus S β σ.objs []) new.flatten news := RepOnes.mono (Keeps.refl _ _) (fun _ _ x => .inl x) _ _ hn0
  have h00 := h.freeze []
  -- what follows for the state, once the object has turned
  have fin : ∀ {w' : World} {blk : Option Nat} {mu : Value}, (Builtin.append_ ats ty #[vx, vy]).run P w = .ok mu w' → Keeps (Plus S β σ.objs []) w w' → Kept M.blocks w0 w' → w.heap.size ≤ w'.heap.size →
      (∀ id' x b, id' ≠ id → look σ.objs id' = some x → β id' = some b → w'.heap[b]? = w.heap[b]?) → ObRel w' (Plus S β σ.objs []) μ σ.objs blk mu (.arr (cv + 1) i.size (rows ++ new)) → (∀ b, blk = some b → (β id = some b ∨ w.heap.size ≤ b)) →
      (∀ b, blk = some b → β id = some b ∨ ∀ off, ¬ Plus S β σ.objs [] b off) →
      Does P o a w (fun v w' => Sim w0 S0 M (σ.apply o.dst { v := .own id (cv + 1), wr := some (id, .arr (cv + 1) i.size (rows ++ new)) }) (a.put o.dst v) w') := by
    intro w' blk mu hrn hkeeps hkept hsize hblk hob hb hb2
    refine ⟨_, mu, w', hrun hrn, .inl rfl, Plus S β σ.objs [], (fun j => if j = id then mu else μ j), (fun j => if j = id then blk else β j), ?_⟩
    have h2 := h00.turn hl blk mu hkeeps hkept hsize hblk (.inr ⟨cv, i.size, rows, cv + 1, _, rfl, rfl, by omega, fun e => by omega⟩) hob hb (by
      intro b off hbb hS
      rcases hb2 b hbb with h3 | h3
      · obtain ⟨h4, h5⟩ := h00.unst id _ b off hl h3 hS
        refine ⟨h4, fun ver s rows' e => ?_⟩
        simp only [Ob.arr.injEq] at e
        obtain ⟨_, rfl, rfl⟩ := e
        have := h5 _ _ _ rfl
        rw [List.length_append, Nat.add_mul]
        omega
      · exact absurd hS (h3 off))
    refine h2.putD hd ?_
    intro cv' s'' rows' hl'
    rw [look_put_self] at hl'
    simp only [Option.some.injEq, Ob.arr.injEq] at hl'
    obtain ⟨rfl, _, _⟩ := hl'
    exact ⟨Nat.le_refl _, fun _ => by simp⟩
  rcases h.objs id _ hl with ⟨hr0, hβ, base, hmu⟩ | ⟨b, cap0, vs, e0, fr, hβ, hmu, hh, hf, hsz, hle, hlens0, hrep0⟩
  · -- nothing in it yet
    subst hr0
    rw [hmu] at hvx
    by_cases hm : new.length = 0
    · have hnew : new = [] := List.length_eq_zero_iff.1 hm
      subst hnew
      refine fin (blk := none) (mu := .slice base 0 0) (w' := w) ?_ (Keeps.refl _ _) h.kept (Nat.le_refl _) (fun _ _ _ _ _ _ => rfl) (.inl ⟨rfl, rfl, base, rfl⟩) (by simp) (by simp)
      rw [hvx, hvy]
      exact append_none h0 h1 ht ht' hi
    · have hg : 0 < 0 + new.length := by omega
      have hr := append_grow (w := w) (ty := ty) h0 h1 ht ht' hi hz (base := base) (sLen := 0) (sCap := 0) (olds := #[]) (by
        cases base with
        | none => simp [Builtin.firstCells]
        | some b => simp [Builtin.firstCells, loadCells, loadCellsFrom]) (hn2 w.drew rfl) hg (by have := small _ hbytes; simp at this; omega) (by simp at hbytes; simp only [Nat.zero_add]; omega)
      refine fin (blk := some w.heap.size) (by rw [hvx, hvy]; exact hr) (hkal [] _) (h.kept.trans (kept_drew_alloc w _).none) (by simp) (fun id' x b _ hl' hb' => (kept_drew_alloc w _).block b (ObRel.live hb' (h.objs id' x hl')) (fun x => x)) ?_ (fun b hb => .inr (by rw [← Option.some.inj hb]; exact Nat.le_refl _)) (fun b hb => .inr (fun off hS => by have := h00.stab b off hS; rw [← Option.some.inj hb] at this; omega))
      have := grown_ob (w' := w.drew.alloc (.cells (#[] ++ news.toArray ++ Builtin.zeroCells z.cells (grownCap w (0 + new.length) 0 e - (0 + new.length))) e)) (S := Plus S β σ.objs []) (olds := []) (news := news) (ro := []) (rn := new) (e := e) (s := i.size) (z := z) (ver := cv + 1) (cap := grownCap w (0 + new.length) 0 e) (μ := μ) (objs := σ.objs) hzs rfl (RepOnes.mono (hkal [] _) (fun _ _ x => x) _ _ hn1) (by simp) hlens (grownCap_ge' _ _ _) (b := w.heap.size) (by simpa using heap_alloc_at w.drew _)
      simpa using this
  · rw [hmu] at hvx
    have hfl := flatten_length hlens0
    have hfln := flatten_length hlens
    by_cases hroom : rows.length + new.length ≤ cap0
    · -- there is room
      have hnl := RepOnes.length hn1
      have hmul : (rows.length + new.length) * i.size ≤ cap0 * i.size := Nat.mul_le_mul_right _ hroom
      rw [Nat.add_mul] at hmul
      obtain ⟨w', vs', r1, r2, r3⟩ := run_storeCells (off := rows.length * i.size) P news 0 vs w hh hf (by omega) (RepOnes.oneCells hn1)
      have hr := append_room (w := w) (ty := ty) h0 h1 ht ht' hi (b := b) (sLen := rows.length) (sCap := cap0) (hn2 w rfl) hroom (by simpa using r1)
      have hkeeps : Keeps (Plus S β σ.objs []) w w' := by
        intro b' off' hS
        by_cases hbb : b' = b
        · subst hbb
          have hoff := (h00.unst id _ b' off' hl hβ hS).2 _ _ _ rfl
          rw [cell_row r2.here, cell_row hh, ← Array.getElem?_toList, ← Array.getElem?_toList, r3, Nat.add_zero]
          rw [List.append_assoc, List.getElem?_append_left (by rw [List.length_take]; simp; omega), List.getElem?_take, if_pos hoff]
        · exact cell_of_heap (r2.other b' hbb) off'
      have hvs : vs'.size = vs.size := by
        have := congrArg List.length r3
        simp only [Array.length_toList, List.length_append, List.length_take, List.length_drop] at this
        omega
      refine fin (blk := some b) (by rw [hvx, hvy]; exact hr) hkeeps (wrote_kept h hl hβ r2) (by rw [r2.size]; exact Nat.le_refl _) (fun id' x b' hid hl' hb' => r2.other b' (fun e => hid (h.inj id' id x _ b' hl' hl hb' (e ▸ hβ)))) ?_ (fun b' hb' => .inl (by rw [hβ]; exact hb')) (fun b' hb' => .inl (by rw [hβ]; exact hb'))
      refine .inr ⟨b, cap0, vs', e0, fr, rfl, by rw [List.length_append], r2.here, by rw [hvs]; exact hf, by rw [hvs]; exact hsz, by rw [List.length_append]; exact hroom, ?_, ?_⟩
      · intro r hr
        rcases List.mem_append.1 hr with h | h
        · exact hlens0 r h
        · exact hlens r h
      · rw [List.flatten_append, List.length_append, Nat.add_mul, r3]
        simp only [Nat.add_zero]
        have hA : (vs.toList.take (rows.length * i.size)).length = rows.length * i.size := by rw [List.length_take]; simp; omega
        rw [List.append_assoc]
        have : (vs.toList.take (rows.length * i.size) ++ (news ++ vs.toList.drop (rows.length * i.size + news.length))).take (rows.length * i.size + new.length * i.size) = vs.toList.take (rows.length * i.size) ++ news := by
          have e1 := List.take_length_add_append (l₁ := vs.toList.take (rows.length * i.size)) (l₂ := news ++ vs.toList.drop (rows.length * i.size + news.length)) (i := new.length * i.size)
          rw [hA] at e1
          rw [e1, ← hfln, ← hnl, List.take_left']
          rfl
        rw [this]
        exact RepOnes.append (RepOnes.mono (fun b off hS => hkeeps b off (.inl hS)) (fun _ _ x => .inl x) _ _ hrep0) (RepOnes.mono hkeeps (fun _ _ x => x) _ _ hn1)
    · -- there is none
      have hg : cap0 < rows.length + new.length := by omega
      have holds : (Builtin.firstCells i.size rows.length (.slice (some ⟨b, 0, none⟩) rows.length cap0)).run P w.drew = .ok (vs.toList.take (rows.length * i.size)).toArray w.drew := by
        refine run_firstCells_some (P := P) w.drew i.size rows.length ⟨b, 0, none⟩ rows.length cap0 (vs.toList.take (rows.length * i.size)) ?_ ?_
        · have : rows.length * i.size ≤ cap0 * i.size := Nat.mul_le_mul_right _ hle
          rw [List.length_take]; simp; omega
        · intro j v hj
          rw [add_none]
          rw [List.getElem?_take] at hj
          split at hj
          · show w.cell? _ = _
            rw [cell_row hh, Nat.zero_add, ← Array.getElem?_toList]; exact hj
          · simp at hj
      have hr := append_grow (w := w) (ty := ty) h0 h1 ht ht' hi hz (base := some ⟨b, 0, none⟩) (sLen := rows.length) (sCap := cap0) holds (hn2 w.drew rfl) hg (small _ hbytes) (by omega)
      refine fin (blk := some w.heap.size) (by rw [hvx, hvy]; exact hr) (hkal [] _) (h.kept.trans (kept_drew_alloc w _).none) (by simp) (fun id' x b _ hl' hb' => (kept_drew_alloc w _).block b (ObRel.live hb' (h.objs id' x hl')) (fun x => x)) ?_ (fun b hb => .inr (by rw [← Option.some.inj hb]; exact Nat.le_refl _)) (fun b hb => .inr (fun off hS => by have := h00.stab b off hS; rw [← Option.some.inj hb] at this; omega))
      exact grown_ob hzs (RepOnes.mono (fun b off hS => hkal [] _ b off (.inl hS)) (fun _ _ x => .inl x) _ _ hrep0) (RepOnes.mono (hkal [] _) (fun _ _ x => x) _ _ hn1) hlens0 hlens (grownCap_ge' _ _ _) (heap_alloc_at w.drew _)

theorem snd_append (h : SimG w0 S0 M σ a w S μ β) (hd : ∀ d, o.dst = some d → d < σ.n) {c : Call} {t t' e e' : TypeId} {i : TypeInfo} {x y : Operand} {x' y' : Opd} (ho : o.op = .call c) (hb : c.callee = .builtin .append) (h0 : c.argTypes[0]? = some t) (h1 : c.argTypes[1]? = some t')
    (hal : c.args.toList = [x, y]) (ht : P.underlying t = some (.slice e)) (ht' : P.underlying t' = some (.slice e')) (hi : P.info? e = some i) (hok : 0 < i.size ∧ 0 < i.bytes ∧ i.zero.any (fun z => z.cells.size == i.size) = true)
    (hx : compOpd x = some x') (hy : compOpd y = some y') {u : Upd} (hu : ev σ o.dst (.append i.size i.bytes x' y') = some u) (hs : u.side) :
    Does P o a w (fun v w' => Sim w0 S0 M (σ.apply o.dst u) (a.put o.dst v) w') := by
  have hrelx := opd_sound h hx
  have hrely := opd_sound h hy
  obtain ⟨hpos, hbpos, hzero⟩ := hok
  obtain ⟨z, hz, hzs⟩ : ∃ z, i.zero = some z ∧ z.cells.size = i.size := by
    cases hzz : i.zero with
    | none => rw [hzz] at hzero; simp at hzero
    | some z => rw [hzz] at hzero; exact ⟨z, rfl, by simpa using hzero⟩
  obtain ⟨consts, hex⟩ := exec_builtin (a := a) ho hb
  have hargs := toList_two hal
  have hrun : ∀ {v : Value} {w' : World}, (Builtin.append_ c.argTypes o.type #[a.eval x, a.eval y]).run P w = .ok v w' → (execOp a.eval o).run P w = .ok (.value v) w' := by
    intro v w' hr
    rw [hex, hargs]
    simp [builtin, hr]
  have small : ∀ n, n * i.bytes ≤ 35184372088832 → n ≤ 9223372036854775807 := by
    intro n hn
    have : n * 1 ≤ n * i.bytes := Nat.mul_le_mul_left _ hbpos
    omega
  simp only [ev] at hu
  split at hu
  · simp at hu
  · next new rd hrows =>
    have hkd : ∀ (fz : List Nat) b off, Plus S β σ.objs fz b off → w.drew.cell? ⟨b, off, none⟩ = w.cell? ⟨b, off, none⟩ := fun _ _ _ _ => rfl
    have hkal : ∀ (fz : List Nat) (x : Go.Obj), Keeps (Plus S β σ.objs fz) w (w.drew.alloc x) := by
      intro fz x b off hS
      exact cell_of_heap ((kept_drew_alloc w x).block b ((h.freeze fz).stab b off hS) (fun x => x)) off
    split at hu
    · -- nil
      next heq =>
      rw [heq] at hrelx
      obtain ⟨base, hvx⟩ := hrelx
      split at hu
      · next d hdst =>
        obtain rfl := Option.some.inj hu
        obtain ⟨hbytes, hlens⟩ : new.length * i.bytes ≤ 35184372088832 ∧ ∀ r ∈ new, r.length = i.size := hs
        obtain ⟨ad, cap, news, hvy, hn0, hn2⟩ := src_cells (P := P) h hrows hrely hlens
        have hn1 : RepOnes w (Plus S β σ.objs []) new.flatten news := RepOnes.mono (Keeps.refl _ _) (fun _ _ x => .inl x) _ _ hn0
        by_cases hm : new.length = 0
        · have hnew : new = [] := List.length_eq_zero_iff.1 hm
          subst hnew
          refine does_new h hdst (hd d hdst) (fz := []) (blk := none) (mu := .slice base 0 0) (v := .slice base 0 0) (w' := w) (hrun ?_) (Kept.refl _ _) (by simp) (.inl ⟨rfl, rfl, base, rfl⟩) (.inr ⟨⟨_, _, rfl⟩, rfl, rfl⟩)
          rw [hvx, hvy]
          exact append_none h0 h1 ht ht' hi
        · have hg : 0 < 0 + new.length := by omega
          have hr := append_grow (w := w) (ty := o.type) h0 h1 ht ht' hi hz (base := base) (sLen := 0) (sCap := 0) (olds := #[]) (by
            cases base with
            | none => simp [Builtin.firstCells]
            | some b => simp [Builtin.firstCells, loadCells, loadCellsFrom]) (hn2 w.drew rfl) hg (by have := small _ hbytes; omega) (by simp only [Nat.zero_add]; omega)
          refine does_new h hdst (hd d hdst) (fz := []) (blk := some w.heap.size) (mu := .slice (some ⟨w.heap.size, 0, none⟩) (0 + new.length) (grownCap w (0 + new.length) 0 e)) (v := .slice (some ⟨w.heap.size, 0, none⟩) (0 + new.length) (grownCap w (0 + new.length) 0 e)) (w' := w.drew.alloc (.cells (#[] ++ news.toArray ++ Builtin.zeroCells z.cells (grownCap w (0 + new.length) 0 e - (0 + new.length))) e)) (hrun ?_) (kept_drew_alloc w _) (fun b hb => (Option.some.inj hb).symm) ?_ (.inr ⟨⟨_, _, rfl⟩, rfl, rfl⟩)
          · rw [hvx, hvy]; exact hr
          · have := grown_ob (w' := w.drew.alloc (.cells (#[] ++ news.toArray ++ Builtin.zeroCells z.cells (grownCap w (0 + new.length) 0 e - (0 + new.length))) e)) (S := Plus S β σ.objs []) (olds := []) (news := news) (ro := []) (rn := new) (e := e) (s := i.size) (z := z) (ver := 0) (cap := grownCap w (0 + new.length) 0 e) (μ := μ) (objs := σ.objs) hzs rfl (RepOnes.mono (hkal [] _) (fun _ _ x => x) _ _ hn1) (by simp) hlens (grownCap_ge' _ _ _) (b := w.heap.size) (by simpa using heap_alloc_at w.drew _)
            simpa using this
      · simp at hu
    · -- full
      next rows heq =>
      rw [heq] at hrelx
      obtain ⟨hrepx, base, hvx⟩ := hrelx
      rw [hvx] at hrepx
      split at hu
      · next d hdst =>
        obtain rfl := Option.some.inj hu
        obtain ⟨hne, hbytes, hlens1, hlens⟩ : new ≠ [] ∧ (rows.length + new.length) * i.bytes ≤ 35184372088832 ∧ (∀ r ∈ rows, r.length = i.size) ∧ ∀ r ∈ new, r.length = i.size := hs
        obtain ⟨ad, cap, news, hvy, hn0, hn2⟩ := src_cells (P := P) h hrows hrely hlens
        have hn1 : RepOnes w (Plus S β σ.objs []) new.flatten news := RepOnes.mono (Keeps.refl _ _) (fun _ _ x => .inl x) _ _ hn0
        obtain ⟨olds, ho1, ho2⟩ := first_cells (P := P) hrepx hlens1
        have hg : rows.length < rows.length + new.length := by
          have : new.length ≠ 0 := fun e => hne (List.length_eq_zero_iff.1 e)
          omega
        have hr := append_grow (w := w) (ty := o.type) h0 h1 ht ht' hi hz (base := base) (sLen := rows.length) (sCap := rows.length) (ho2 w.drew (fun _ _ _ => rfl)) (hn2 w.drew rfl) hg (small _ hbytes) (by omega)
        refine does_new h hdst (hd d hdst) (fz := []) (blk := some w.heap.size) (mu := _) (v := _) (w' := _) (hrun (by rw [hvx, hvy]; exact hr)) (kept_drew_alloc w _) (fun b hb => (Option.some.inj hb).symm) ?_ (.inr ⟨⟨_, _, rfl⟩, rfl, rfl⟩)
        exact grown_ob hzs (RepOnes.mono (fun b off hS => hkal [] _ b off (.inl hS)) (fun _ _ x => .inl x) _ _ ho1) (RepOnes.mono (hkal [] _) (fun _ _ x => x) _ _ hn1) hlens1 hlens (grownCap_ge' _ _ _) (heap_alloc_at w.drew _)
      · simp at hu
    · -- own
      next id ver heq =>
      rw [heq] at hrelx
      split at hu
      · next cv s' rows hl =>
        split at hu
        · next hcond =>
          simp only [Bool.and_eq_true, Bool.not_eq_true'] at hcond
          obtain ⟨hver, hself⟩ := hcond
          have hver : ver = cv := by simpa using hver
          obtain rfl := Option.some.inj hu
          obtain ⟨hss, hbytes, hlens⟩ : s' = i.size ∧ (rows.length + new.length) * i.bytes ≤ 35184372088832 ∧ ∀ r ∈ new, r.length = i.size := hs
          subst hss
          have hvx := (hrelx _ _ _ hl).2 hver
          obtain ⟨ad, cap, news, hvy, hn0, hn2⟩ := src_cells (P := P) h hrows hrely hlens
          exact append_own h hd h0 h1 ht ht' hi hpos hbpos hz hzs hrun hl hvx hvy hn0 hn2 hlens hbytes
        · simp at hu
      · simp at hu
    · -- a piece
      next id ver lo hi0 heq =>
      rw [heq] at hrelx
      split at hu
      · next cv s' rows hl =>
        split at hu
        · next hcond =>
          simp only [Bool.and_eq_true, Bool.not_eq_true', beq_iff_eq] at hcond
          obtain ⟨⟨rfl, rfl⟩, hro⟩ := hcond
          have hro : id ∉ σ.ro := by simpa using hro
          obtain ⟨g1, g2, x1, cap0, y1, g3, g4, g5, g6⟩ := (hrelx _ _ _ hl).2 rfl
          obtain rfl := g5 rfl
          simp only [Nat.sub_zero] at g4
          split at hu
          · next hin =>
            split at hu
            · next id2 ver2 lo2 hi2 heqy =>
              split at hu
              · next hid2 =>
                obtain rfl : id2 = id := by simpa using hid2
                obtain rfl := Option.some.inj hu
                obtain ⟨rfl, hle1, hle2⟩ : s' = i.size ∧ hi0 ≤ lo2 ∧ lo2 ≤ hi2 := hs
                rw [heqy] at hrely hrows
                have hver2 : ver2 = ver := by
                  simp only [rowsOf, hl] at hrows
                  split at hrows
                  · next hv => simpa using hv
                  · simp at hrows
                subst hver2
                obtain ⟨q1, q2, _⟩ := (hrely _ _ _ hl).2 rfl
                obtain ⟨ad, cap, news, hvy, hn0, hn2⟩ := view_cells (P := P) h hl hrely
                have hmlen : ((rows.take hi2).drop lo2).length = hi2 - lo2 := by rw [List.length_drop, List.length_take]; omega
                have hlens : ∀ r ∈ (rows.take hi2).drop lo2, r.length = i.size := by
                  intro r hr
                  have hm : r ∈ rows := List.mem_of_mem_take (List.mem_of_mem_drop hr)
                  rcases h.objs id2 _ hl with ⟨z1, _⟩ | ⟨_, _, _, _, _, _, _, _, _, _, _, hlens, _⟩
                  · subst z1; simp at hm
                  · exact hlens r hm
                rcases h.objs id2 _ hl with ⟨hr0, hβ, base, hmu⟩ | ⟨b, cap', us, e0, fr, hβ, hmu, hh, hf, hsz, hle, hlens0, hrep0⟩
                · subst hr0
                  have e1 : hi0 = 0 := by simpa using g2
                  have e2 : hi2 = 0 := by simpa using q2
                  have e3 : lo2 = 0 := by omega
                  subst e1 e2 e3
                  rw [hmu] at g3
                  simp only [Value.slice.injEq] at g3
                  obtain ⟨rfl, _, rfl⟩ := g3
                  refine ⟨_, .slice base 0 0, w, hrun ?_, .inl rfl, S, μ, β, ?_⟩
                  · rw [g4, hvy]
                    exact append_none h0 h1 ht ht' hi
                  · refine SimG.putD (σ := { σ with objs := put σ.objs id2 (.arr ver2 i.size []) }) (put_same h hl) hd ?_
                    intro cv' s' rows' hl'
                    rw [look_put_self] at hl'
                    simp only [Option.some.injEq, Ob.arr.injEq] at hl'
                    obtain ⟨rfl, rfl, rfl⟩ := hl'
                    exact ⟨Nat.le_refl _, fun _ => ⟨Nat.zero_le _, Nat.le_refl _, base, 0, base, hmu, rfl, fun _ => rfl, fun hh => absurd hh (Nat.lt_irrefl _)⟩⟩
                · rw [hmu] at g3
                  simp only [Value.slice.injEq] at g3
                  obtain ⟨rfl, _, rfl⟩ := g3
                  rw [← hmlen] at hn2 hvy
                  obtain ⟨w', r1, r2⟩ := piece_write (P := P) h hl hro hβ hmu hh hf hsz hle hlens0 hrep0 (pos := hi0) (rn := (rows.take hi2).drop lo2) hn0 hlens (by omega)
                  have hr := append_room (w := w) (ty := o.type) h0 h1 ht ht' hi (b := b) (sLen := hi0) (sCap := cap') (hn2 w rfl) (by omega) (by simpa using r1)
                  refine ⟨_, _, w', hrun (by rw [g4, hvy]; exact hr), .inl rfl, S, μ, β, ?_⟩
                  rw [hmlen] at r2 ⊢
                  refine SimG.putD (σ := { σ with objs := put σ.objs id2 (.arr ver2 i.size (rows.take hi0 ++ ((rows.take hi2).drop lo2 ++ rows.drop (hi0 + (hi2 - lo2))))) }) r2 hd ?_
                  intro cv' s' rows' hl'
                  rw [look_put_self] at hl'
                  simp only [Option.some.injEq, Ob.arr.injEq] at hl'
                  obtain ⟨rfl, rfl, rfl⟩ := hl'
                  have hlen' : (rows.take hi0 ++ ((rows.take hi2).drop lo2 ++ rows.drop (hi0 + (hi2 - lo2)))).length = rows.length := by
                    simp only [List.length_append, List.length_take, List.length_drop]; omega
                  exact ⟨Nat.le_refl _, fun _ => ⟨Nat.zero_le _, by omega, _, cap', _, by rw [hlen']; exact hmu, rfl, fun _ => rfl, fun _ => ⟨b, rfl, by simp⟩⟩⟩
              · simp at hu
            · simp at hu
          · next hin =>
            obtain rfl := Option.some.inj hu
            obtain ⟨rfl, hbytes, hlens⟩ : s' = i.size ∧ (hi0 + new.length) * i.bytes ≤ 35184372088832 ∧ ∀ r ∈ new, r.length = i.size := hs
            obtain ⟨ad, cap, news, hvy, hn0, hn2⟩ := src_cells (P := P) h hrows hrely hlens
            have htl : (rows.take hi0).length = hi0 := by rw [List.length_take]; omega
            have hsh : SimG w0 S0 M { σ with objs := put σ.objs id (.arr (ver + 1) i.size (rows.take hi0)) } a w S (fun j => if j = id then a.eval x else μ j) (fun j => if j = id then β id else β j) := by
              refine h.turn hl (β id) (a.eval x) (w' := w) (Keeps.refl _ _) h.kept (Nat.le_refl _) (fun _ _ _ _ _ _ => rfl) (.inr ⟨ver, i.size, rows, ver + 1, _, rfl, rfl, by omega, fun e => by omega⟩) ?_ (fun b hb => .inl hb) (fun b off hb hS => absurd (h.unst id _ b off hl hb hS).1 hro)
              rcases h.objs id _ hl with ⟨hr0, hβ, base, hmu⟩ | ⟨b, cap', us, e0, fr, hβ, hmu, hh, hf, hsz, hle, hlens0, hrep0⟩
              · subst hr0
                have e1 : hi0 = 0 := by simpa using g2
                subst e1
                rw [hmu] at g3
                simp only [Value.slice.injEq] at g3
                obtain ⟨rfl, _, rfl⟩ := g3
                exact .inl ⟨by simp, hβ, base, g4⟩
              · rw [hmu] at g3
                simp only [Value.slice.injEq] at g3
                obtain ⟨rfl, _, rfl⟩ := g3
                refine .inr ⟨b, cap', us, e0, fr, hβ, by rw [htl]; exact g4, hh, hf, hsz, by omega, fun r hr => hlens0 r (List.mem_of_mem_take hr), ?_⟩
                rw [htl, flatten_take hlens0]
                have := RepOnes.take (hi0 * i.size) hrep0
                rw [List.take_take, Nat.min_eq_left (Nat.mul_le_mul_right _ g2)] at this
                exact this
            obtain ⟨n, v, w', p1, p2, p3⟩ := append_own (σ := { σ with objs := put σ.objs id (.arr (ver + 1) i.size (rows.take hi0)) }) hsh hd h0 h1 ht ht' hi hpos hbpos hz hzs hrun (look_put_self _ _ _) (by simp) hvy hn0 hn2 hlens (by rw [htl]; exact hbytes)
            refine ⟨n, v, w', p1, p2, ?_⟩
            obtain ⟨S', μ', β', hf⟩ := p3
            exact ⟨S', μ', β', hf.drop rfl rfl (fun _ _ _ hi => hi) (fun _ => .inr rfl) (fun j y hj => by
              have e : look (putW (put σ.objs id (.arr (ver + 1) i.size (rows.take hi0))) (some (id, .arr (ver + 1 + 1) i.size (rows.take hi0 ++ new)))) j = look (putW σ.objs (some (id, .arr (ver + 2) i.size (rows.take hi0 ++ new)))) j := by
                simp only [putW, look_put]
                split <;> rfl
              exact e.trans hj)⟩
        · simp at hu
      · simp at hu
    · simp at hu

end
end Go.Vs
