/- Value semantics, part 11: appends hold what the evaluator says. No conditions. -/
import Derived.Test.YtjfleklkloohgaaVs10
namespace Go.Vs

section
variable {P : Program} {w0 w : World} {S0 S : Stab} {M : Nat → Prop} {σ : St} {a : Act} {μ : Nat → Value} {β : Nat → Option Nat} {o : Oper}

theorem append_grow {ats : Array TypeId} {t t' e e' ty : TypeId} {i : TypeInfo} {z : Value} (h0 : ats[0]? = some t) (h1 : ats[1]? = some t') (ht : P.underlying t = some (.slice e)) (ht' : P.underlying t' = some (.slice e')) (hi : P.info? e = some i) (hz : i.zero = some z)
    {base ad : Option Addr} {sLen sCap m c : Nat} {olds news : Array Value} (ho : (Builtin.firstCells i.size sLen (.slice base sLen sCap)).run P w.drew = .ok olds w.drew) (hn : (Builtin.firstCells i.size m (.slice ad m c)).run P w.drew = .ok news w.drew)
    (hg : sCap < sLen + m) (h63 : sLen + m ≤ 9223372036854775807) (hfit : (sLen + m) * i.bytes ≤ 140737488355328) :
    (Builtin.append_ ats ty #[.slice base sLen sCap, .slice ad m c]).run P w =
      .ok (.slice (some ⟨w.heap.size, 0, none⟩) (sLen + m) (grownCap w (sLen + m) sCap e)) (w.drew.alloc (.cells (olds ++ news ++ Builtin.zeroCells z.cells (grownCap w (sLen + m) sCap e - (sLen + m))) e)) := by
  have hf := growslice_fits hg hfit
  have hn1 : ¬ (sLen + m ≤ sCap) := by omega
  have h63' : ¬ (9223372036854775807 < ((sLen : Int) + (m : Int))) := by omega
  have h48' : ¬ (281474976710656 < Builtin.nextslicecap (sLen + m) sCap * i.bytes) := by omega
  simp [Builtin.append_, h0, h1, run_underlying ht, run_underlying ht', sizeOf, typeInfo, zeroValue, hi, hz, Builtin.lenOf, hn1, h63', h48', Question.forced, ho, hn, newRow, grownCap]

theorem append_room {ats : Array TypeId} {t t' e e' ty : TypeId} {i : TypeInfo} (h0 : ats[0]? = some t) (h1 : ats[1]? = some t') (ht : P.underlying t = some (.slice e)) (ht' : P.underlying t' = some (.slice e')) (hi : P.info? e = some i)
    {b : Nat} {ad : Option Addr} {sLen sCap m c : Nat} {news : Array Value} (hn : (Builtin.firstCells i.size m (.slice ad m c)).run P w = .ok news w)
    (hg : sLen + m ≤ sCap) {w' : World} (hst : (storeCells ⟨b, sLen * i.size, none⟩ news.toList 0).run P w = .ok () w') :
    (Builtin.append_ ats ty #[.slice (some ⟨b, 0, none⟩) sLen sCap, .slice ad m c]).run P w = .ok (.slice (some ⟨b, 0, none⟩) (sLen + m) sCap) w' := by
  simp [Builtin.append_, h0, h1, run_underlying ht, run_underlying ht', sizeOf, typeInfo, hi, Builtin.lenOf, hg, hn, add_none, hst]

theorem append_none {ats : Array TypeId} {t t' e e' ty : TypeId} {i : TypeInfo} (h0 : ats[0]? = some t) (h1 : ats[1]? = some t') (ht : P.underlying t = some (.slice e)) (ht' : P.underlying t' = some (.slice e')) (hi : P.info? e = some i)
    {base ad : Option Addr} {c : Nat} : (Builtin.append_ ats ty #[.slice base 0 0, .slice ad 0 c]).run P w = .ok (.slice base 0 0) w := by
  have hn : (Builtin.firstCells i.size 0 (.slice ad 0 c)).run P w = .ok #[] w := by
    cases ad with
    | none => simp [Builtin.firstCells]
    | some b => simp [Builtin.firstCells, loadCells, loadCellsFrom]
  cases base with
  | none => simp [Builtin.append_, h0, h1, run_underlying ht, run_underlying ht', sizeOf, typeInfo, hi, Builtin.lenOf, hn]
  | some b => simp [Builtin.append_, h0, h1, run_underlying ht, run_underlying ht', sizeOf, typeInfo, hi, Builtin.lenOf, hn, storeCells]

/-- The cells of what is read of a slice. -/
theorem first_cells {S : Stab} {rows : List (List IV)} {ad : Option Addr} {cap s : Nat} (hr : Rep w S (.slice rows) (.slice ad rows.length cap)) (hl : ∀ r ∈ rows, r.length = s) :
    ∃ vs, RepOnes w S rows.flatten vs ∧ ∀ w' : World, (∀ b o, S b o → w'.cell? ⟨b, o, none⟩ = w.cell? ⟨b, o, none⟩) → (Builtin.firstCells s rows.length (.slice ad rows.length cap)).run P w' = .ok vs.toArray w' := by
  obtain ⟨ad', cap', hv, hle, hc⟩ := hr
  simp only [Value.slice.injEq] at hv
  obtain ⟨rfl, _, rfl⟩ := hv
  by_cases hne : rows = []
  · subst hne
    refine ⟨[], rfl, fun w' _ => ?_⟩
    cases ad with
    | none => simp [Builtin.firstCells]
    | some b => simp [Builtin.firstCells, loadCells, loadCellsFrom]
  · obtain ⟨b, off, s', rfl, hrows⟩ := hc hne
    have hss : s' = s := by
      obtain ⟨row, hrow⟩ := List.exists_mem_of_ne_nil rows hne
      exact (RepRows.lens hrows row hrow).symm.trans (hl row hrow)
    subst hss
    have hcells := RepRows.flat hrows
    obtain ⟨vs, h1, h2⟩ := RepCells.vals hcells
    refine ⟨vs, h1, fun w' hk => ?_⟩
    refine run_firstCells_some (P := P) w' s' rows.length ⟨b, off, none⟩ rows.length cap vs ?_ ?_
    · rw [RepOnes.length h1, flatten_length hl]
    · intro j v hj
      rw [add_none]
      have hlt : j < rows.flatten.length := by
        have := RepOnes.length h1
        rcases Nat.lt_or_ge j rows.flatten.length with hh | hh
        · exact hh
        · rw [List.getElem?_eq_none (by omega)] at hj
          simp at hj
      have hS : S b (off + j) := by
        have hsub : ∀ (xs : List IV) (o : Nat), RepCells w S xs b o → ∀ j, j < xs.length → S b (o + j) := by
          intro xs
          induction xs with
          | nil => intro o _ j hj; simp at hj
          | cons x xs ih =>
            intro o ⟨k1, _, _, k4⟩ j hj
            cases j with
            | zero => exact k1
            | succ j => have := ih (o + 1) k4 j (by simpa using hj); rwa [show o + 1 + j = o + (j + 1) by omega] at this
        exact hsub _ _ hcells j hlt
      rw [hk b (off + j) hS]
      exact h2 j v hj

theorem kept_drew_alloc (w : World) (x : Go.Obj) : Kept (fun _ => False) w (w.drew.alloc x) :=
  ⟨rfl, rfl, rfl, by simp, fun _ hk _ => heap_alloc_lt (w := w.drew) hk⟩

theorem grownCap_ge' (need old : Nat) (e : TypeId) : need ≤ grownCap w need old e := grownCap_ge w need old e

/-- A grown row, as an object. -/
theorem grown_ob {S : Stab} {olds news : List Value} {ro rn : List (List IV)} {e : TypeId} {s : Nat} {z : Value} {ver cap : Nat} {μ : Nat → Value} {objs : List (Nat × Ob)} {w' : World} (hz : z.cells.size = s)
    (h1 : RepOnes w' S ro.flatten olds) (h2 : RepOnes w' S rn.flatten news) (hl1 : ∀ r ∈ ro, r.length = s) (hl2 : ∀ r ∈ rn, r.length = s) (hc : ro.length + rn.length ≤ cap) {b : Nat}
    (hh : w'.heap[b]? = some (.cells (olds.toArray ++ news.toArray ++ Builtin.zeroCells z.cells (cap - (ro.length + rn.length))) e)) :
    ObRel w' S μ objs (some b) (.slice (some ⟨b, 0, none⟩) (ro.length + rn.length) cap) (.arr ver s (ro ++ rn)) := by
  have e1 := RepOnes.length h1
  have e2 := RepOnes.length h2
  rw [flatten_length hl1] at e1
  rw [flatten_length hl2] at e2
  refine .inr ⟨b, cap, _, e, (0, 0), rfl, by rw [List.length_append], hh, NoFrz.zero _, ?_, by rw [List.length_append]; exact hc, ?_, ?_⟩
  · simp only [Array.size_append, List.size_toArray, size_zeroCells, hz, e1, e2]
    rw [← Nat.add_mul, ← Nat.add_mul]
    congr 1; omega
  · intro r hr
    rcases List.mem_append.1 hr with h | h
    · exact hl1 r h
    · exact hl2 r h
  · rw [List.flatten_append]
    have : (olds.toArray ++ news.toArray ++ Builtin.zeroCells z.cells (cap - (ro.length + rn.length))).toList.take ((ro ++ rn).length * s) = olds ++ news := by
      rw [List.length_append, Nat.add_mul, ← e1, ← e2]
      simp only [Array.toList_append]
      rw [List.append_assoc, List.take_length_add_append, List.take_left']
      rfl
    rw [this]
    exact RepOnes.append h1 h2

theorem snd_append (h : SimG w0 S0 M σ a w S μ β) (hd : ∀ d, o.dst = some d → d < σ.n) {c : Call} {t t' e e' : TypeId} {i : TypeInfo} {x y : Operand} {x' y' : Opd} (ho : o.op = .call c) (hb : c.callee = .builtin .append) (h0 : c.argTypes[0]? = some t) (h1 : c.argTypes[1]? = some t')
    (hal : c.args.toList = [x, y]) (ht : P.underlying t = some (.slice e)) (ht' : P.underlying t' = some (.slice e')) (hi : P.info? e = some i) (hok : 0 < i.size ∧ 0 < i.bytes ∧ i.zero.any (fun z => z.cells.size == i.size) = true)
    (hx : compOpd x = some x') (hy : compOpd y = some y') {u : Upd} (hu : ev σ o.dst (.append i.size i.bytes x' y') = some u) (hs : u.side) :
    Does P o a w (fun v w' => Sim w0 S0 M (σ.apply o.dst u) (a.put o.dst v) w') := by
  have hrelx := opd_sound h hx
  have hrely := opd_sound h hy
  obtain ⟨hpos, hbpos, hzero⟩ := hok
  obtain ⟨z, hz, hzs⟩ : ∃ z, i.zero = some z ∧ z.cells.size = i.size := by
    cases hzz : i.zero with
    | none => rw [hzz] at hzero; simp at hzero
    | some z => rw [hzz] at hzero; exact ⟨z, rfl, by simpa using hzero⟩
  obtain ⟨consts, hex⟩ := exec_builtin (a := a) ho hb
  have hargs := toList_two hal
  have hrun : ∀ {v : Value} {w' : World}, (Builtin.append_ c.argTypes o.type #[a.eval x, a.eval y]).run P w = .ok v w' → (execOp a.eval o).run P w = .ok (.value v) w' := by
    intro v w' hr
    rw [hex, hargs]
    simp [builtin, hr]
  have small : ∀ n, n * i.bytes ≤ 35184372088832 → n ≤ 9223372036854775807 := by
    intro n hn
    have : n * 1 ≤ n * i.bytes := Nat.mul_le_mul_left _ hbpos
    omega
  simp only [ev] at hu
  split at hu
  · simp at hu
  · next new rd hrows =>
    have hrep := rowsOf_sound h hrows hrely
    obtain ⟨ad, cap, hvy, _, _⟩ := id hrep
    rw [hvy] at hrep
    have hkd : ∀ (fz : List Nat) b off, Plus S β σ.objs fz b off → w.drew.cell? ⟨b, off, none⟩ = w.cell? ⟨b, off, none⟩ := fun _ _ _ _ => rfl
    have hkal : ∀ (fz : List Nat) (x : Go.Obj), Keeps (Plus S β σ.objs fz) w (w.drew.alloc x) := by
      intro fz x b off hS
      exact cell_of_heap ((kept_drew_alloc w x).block b ((h.freeze fz).stab b off hS) (fun x => x)) off
    split at hu
    · -- nil
      next heq =>
      rw [heq] at hrelx
      obtain ⟨base, hvx⟩ := hrelx
      split at hu
      · next d hdst =>
        obtain rfl := Option.some.inj hu
        obtain ⟨hbytes, hlens⟩ : new.length * i.bytes ≤ 35184372088832 ∧ ∀ r ∈ new, r.length = i.size := hs
        obtain ⟨news, hn1, hn2⟩ := first_cells (P := P) hrep hlens
        by_cases hm : new.length = 0
        · have hnew : new = [] := List.length_eq_zero_iff.1 hm
          subst hnew
          refine does_new h hdst (hd d hdst) (fz := rd) (blk := none) (mu := .slice base 0 0) (v := .slice base 0 0) (w' := w) (hrun ?_) (Kept.refl _ _) (by simp) (.inl ⟨rfl, rfl, base, rfl⟩) (.inr ⟨⟨_, _, rfl⟩, rfl, rfl⟩)
          rw [hvx, hvy]
          exact append_none h0 h1 ht ht' hi
        · have hg : 0 < 0 + new.length := by omega
          have hr := append_grow (w := w) (ty := o.type) h0 h1 ht ht' hi hz (base := base) (sLen := 0) (sCap := 0) (olds := #[]) (by
            cases base with
            | none => simp [Builtin.firstCells]
            | some b => simp [Builtin.firstCells, loadCells, loadCellsFrom]) (hn2 w.drew (hkd rd)) hg (by have := small _ hbytes; omega) (by simp only [Nat.zero_add]; omega)
          refine does_new h hdst (hd d hdst) (fz := rd) (blk := some w.heap.size) (mu := .slice (some ⟨w.heap.size, 0, none⟩) (0 + new.length) (grownCap w (0 + new.length) 0 e)) (v := .slice (some ⟨w.heap.size, 0, none⟩) (0 + new.length) (grownCap w (0 + new.length) 0 e)) (w' := w.drew.alloc (.cells (#[] ++ news.toArray ++ Builtin.zeroCells z.cells (grownCap w (0 + new.length) 0 e - (0 + new.length))) e)) (hrun ?_) (kept_drew_alloc w _) (fun b hb => (Option.some.inj hb).symm) ?_ (.inr ⟨⟨_, _, rfl⟩, rfl, rfl⟩)
          · rw [hvx, hvy]; exact hr
          · have := grown_ob (w' := w.drew.alloc (.cells (#[] ++ news.toArray ++ Builtin.zeroCells z.cells (grownCap w (0 + new.length) 0 e - (0 + new.length))) e)) (S := Plus S β σ.objs rd) (olds := []) (news := news) (ro := []) (rn := new) (e := e) (s := i.size) (z := z) (ver := 0) (cap := grownCap w (0 + new.length) 0 e) (μ := μ) (objs := σ.objs) hzs rfl (RepOnes.mono (hkal rd _) (fun _ _ x => x) _ _ hn1) (by simp) hlens (grownCap_ge' _ _ _) (b := w.heap.size) (by simpa using heap_alloc_at w.drew _)
            simpa using this
      · simp at hu
    · -- full
      next rows heq =>
      rw [heq] at hrelx
      obtain ⟨hrepx, base, hvx⟩ := hrelx
      rw [hvx] at hrepx
      split at hu
      · next d hdst =>
        obtain rfl := Option.some.inj hu
        obtain ⟨hne, hbytes, hlens1, hlens⟩ : new ≠ [] ∧ (rows.length + new.length) * i.bytes ≤ 35184372088832 ∧ (∀ r ∈ rows, r.length = i.size) ∧ ∀ r ∈ new, r.length = i.size := hs
        obtain ⟨news, hn1, hn2⟩ := first_cells (P := P) hrep hlens
        obtain ⟨olds, ho1, ho2⟩ := first_cells (P := P) hrepx hlens1
        have hg : rows.length < rows.length + new.length := by
          have : new.length ≠ 0 := fun e => hne (List.length_eq_zero_iff.1 e)
          omega
        have hr := append_grow (w := w) (ty := o.type) h0 h1 ht ht' hi hz (base := base) (sLen := rows.length) (sCap := rows.length) (ho2 w.drew (fun _ _ _ => rfl)) (hn2 w.drew (hkd rd)) hg (small _ hbytes) (by omega)
        refine does_new h hdst (hd d hdst) (fz := rd) (blk := some w.heap.size) (mu := _) (v := _) (w' := _) (hrun (by rw [hvx, hvy]; exact hr)) (kept_drew_alloc w _) (fun b hb => (Option.some.inj hb).symm) ?_ (.inr ⟨⟨_, _, rfl⟩, rfl, rfl⟩)
        exact grown_ob hzs (RepOnes.mono (fun b off hS => hkal rd _ b off (.inl hS)) (fun _ _ x => .inl x) _ _ ho1) (RepOnes.mono (hkal rd _) (fun _ _ x => x) _ _ hn1) hlens1 hlens (grownCap_ge' _ _ _) (heap_alloc_at w.drew _)
      · simp at hu
    · -- own
      next id ver heq =>
      rw [heq] at hrelx
      split at hu
      · next cv s' rows hl =>
        split at hu
        · next hcond =>
          simp only [Bool.and_eq_true, Bool.not_eq_true'] at hcond
          obtain ⟨hver, hself⟩ := hcond
          have hver : ver = cv := by simpa using hver
          have hself : id ∉ rd := by simpa using hself
          obtain rfl := Option.some.inj hu
          obtain ⟨hss, hbytes, hlens⟩ : s' = i.size ∧ (rows.length + new.length) * i.bytes ≤ 35184372088832 ∧ ∀ r ∈ new, r.length = i.size := hs
          subst hss
          have hvx := (hrelx _ _ _ hl).2 hver
          obtain ⟨news, hn1, hn2⟩ := first_cells (P := P) hrep hlens
          have h00 := h.freeze rd
          -- what follows for the state, once the object has turned
          have fin : ∀ {w' : World} {blk : Option Nat} {mu : Value}, (Builtin.append_ c.argTypes o.type #[a.eval x, a.eval y]).run P w = .ok mu w' → Keeps (Plus S β σ.objs rd) w w' → Kept M w0 w' → w.heap.size ≤ w'.heap.size →
              (∀ id' x b, id' ≠ id → look σ.objs id' = some x → β id' = some b → w'.heap[b]? = w.heap[b]?) → ObRel w' (Plus S β σ.objs rd) μ σ.objs blk mu (.arr (cv + 1) i.size (rows ++ new)) → (∀ b, blk = some b → (β id = some b ∨ w.heap.size ≤ b)) →
              (∀ b, blk = some b → β id = some b ∨ ∀ off, ¬ Plus S β σ.objs rd b off) →
              Does P o a w (fun v w' => Sim w0 S0 M (σ.apply o.dst { v := .own id (cv + 1), side := i.size = i.size ∧ (rows.length + new.length) * i.bytes ≤ 35184372088832 ∧ ∀ r ∈ new, r.length = i.size, wr := some (id, .arr (cv + 1) i.size (rows ++ new)), fz := rd }) (a.put o.dst v) w') := by
            intro w' blk mu hrn hkeeps hkept hsize hblk hob hb hb2
            refine ⟨_, mu, w', hrun hrn, .inl rfl, Plus S β σ.objs rd, (fun j => if j = id then mu else μ j), (fun j => if j = id then blk else β j), ?_⟩
            have h2 := h00.turn hl blk mu hkeeps hkept hsize hblk (.inr ⟨cv, i.size, rows, cv + 1, _, rfl, rfl, by omega, fun e => by omega⟩) hob hb (by
              intro b off hbb hS
              rcases hb2 b hbb with h3 | h3
              · obtain ⟨h4, h5⟩ := h00.unst id _ b off hl h3 hS
                refine ⟨h4, fun ver s rows' e => ?_⟩
                simp only [Ob.arr.injEq] at e
                obtain ⟨_, rfl, rfl⟩ := e
                have := h5 _ _ _ rfl
                rw [List.length_append, Nat.add_mul]
                omega
              · exact absurd hS (h3 off))
            refine h2.putD hd ?_
            intro cv' s'' rows' hl'
            rw [look_put_self] at hl'
            simp only [Option.some.injEq, Ob.arr.injEq] at hl'
            obtain ⟨rfl, _, _⟩ := hl'
            exact ⟨Nat.le_refl _, fun _ => by simp⟩
          rcases h.objs id _ hl with ⟨hr0, hβ, base, hmu⟩ | ⟨b, cap0, vs, e0, fr, hβ, hmu, hh, hf, hsz, hle, hlens0, hrep0⟩
          · -- nothing in it yet
            subst hr0
            rw [hmu] at hvx
            by_cases hm : new.length = 0
            · have hnew : new = [] := List.length_eq_zero_iff.1 hm
              subst hnew
              refine fin (blk := none) (mu := .slice base 0 0) (w' := w) ?_ (Keeps.refl _ _) h.kept (Nat.le_refl _) (fun _ _ _ _ _ _ => rfl) (.inl ⟨rfl, rfl, base, rfl⟩) (by simp) (by simp)
              rw [hvx, hvy]
              exact append_none h0 h1 ht ht' hi
            · have hg : 0 < 0 + new.length := by omega
              have hr := append_grow (w := w) (ty := o.type) h0 h1 ht ht' hi hz (base := base) (sLen := 0) (sCap := 0) (olds := #[]) (by
                cases base with
                | none => simp [Builtin.firstCells]
                | some b => simp [Builtin.firstCells, loadCells, loadCellsFrom]) (hn2 w.drew (hkd rd)) hg (by have := small _ hbytes; simp at this; omega) (by simp at hbytes; simp only [Nat.zero_add]; omega)
              refine fin (blk := some w.heap.size) (by rw [hvx, hvy]; exact hr) (hkal rd _) (h.kept.trans (kept_drew_alloc w _).none) (by simp) (fun id' x b _ hl' hb' => (kept_drew_alloc w _).block b (ObRel.live hb' (h.objs id' x hl')) (fun x => x)) ?_ (fun b hb => .inr (by rw [← Option.some.inj hb]; exact Nat.le_refl _)) (fun b hb => .inr (fun off hS => by have := h00.stab b off hS; rw [← Option.some.inj hb] at this; omega))
              have := grown_ob (w' := w.drew.alloc (.cells (#[] ++ news.toArray ++ Builtin.zeroCells z.cells (grownCap w (0 + new.length) 0 e - (0 + new.length))) e)) (S := Plus S β σ.objs rd) (olds := []) (news := news) (ro := []) (rn := new) (e := e) (s := i.size) (z := z) (ver := cv + 1) (cap := grownCap w (0 + new.length) 0 e) (μ := μ) (objs := σ.objs) hzs rfl (RepOnes.mono (hkal rd _) (fun _ _ x => x) _ _ hn1) (by simp) hlens (grownCap_ge' _ _ _) (b := w.heap.size) (by simpa using heap_alloc_at w.drew _)
              simpa using this
          · rw [hmu] at hvx
            have hfl := flatten_length hlens0
            have hfln := flatten_length hlens
            by_cases hroom : rows.length + new.length ≤ cap0
            · -- there is room
              have hnl := RepOnes.length hn1
              have hmul : (rows.length + new.length) * i.size ≤ cap0 * i.size := Nat.mul_le_mul_right _ hroom
              rw [Nat.add_mul] at hmul
              obtain ⟨w', vs', r1, r2, r3⟩ := run_storeCells (off := rows.length * i.size) P news 0 vs w hh hf (by omega) (RepOnes.oneCells hn1)
              have hr := append_room (w := w) (ty := o.type) h0 h1 ht ht' hi (b := b) (sLen := rows.length) (sCap := cap0) (hn2 w (fun _ _ _ => rfl)) hroom (by simpa using r1)
              have hkeeps : Keeps (Plus S β σ.objs rd) w w' := by
                intro b' off' hS
                by_cases hbb : b' = b
                · subst hbb
                  have hoff := (h00.unst id _ b' off' hl hβ hS).2 _ _ _ rfl
                  rw [cell_row r2.here, cell_row hh, ← Array.getElem?_toList, ← Array.getElem?_toList, r3, Nat.add_zero]
                  rw [List.append_assoc, List.getElem?_append_left (by rw [List.length_take]; simp; omega), List.getElem?_take, if_pos hoff]
                · exact cell_of_heap (r2.other b' hbb) off'
              have hvs : vs'.size = vs.size := by
                have := congrArg List.length r3
                simp only [Array.length_toList, List.length_append, List.length_take, List.length_drop] at this
                omega
              refine fin (blk := some b) (by rw [hvx, hvy]; exact hr) hkeeps (wrote_kept h hl hβ r2) (by rw [r2.size]; exact Nat.le_refl _) (fun id' x b' hid hl' hb' => r2.other b' (fun e => hid (h.inj id' id x _ b' hl' hl hb' (e ▸ hβ)))) ?_ (fun b' hb' => .inl (by rw [hβ]; exact hb')) (fun b' hb' => .inl (by rw [hβ]; exact hb'))
              refine .inr ⟨b, cap0, vs', e0, fr, rfl, by rw [List.length_append], r2.here, by rw [hvs]; exact hf, by rw [hvs]; exact hsz, by rw [List.length_append]; exact hroom, ?_, ?_⟩
              · intro r hr
                rcases List.mem_append.1 hr with h | h
                · exact hlens0 r h
                · exact hlens r h
              · rw [List.flatten_append, List.length_append, Nat.add_mul, r3]
                simp only [Nat.add_zero]
                have hA : (vs.toList.take (rows.length * i.size)).length = rows.length * i.size := by rw [List.length_take]; simp; omega
                rw [List.append_assoc]
                have : (vs.toList.take (rows.length * i.size) ++ (news ++ vs.toList.drop (rows.length * i.size + news.length))).take (rows.length * i.size + new.length * i.size) = vs.toList.take (rows.length * i.size) ++ news := by
                  have e1 := List.take_length_add_append (l₁ := vs.toList.take (rows.length * i.size)) (l₂ := news ++ vs.toList.drop (rows.length * i.size + news.length)) (i := new.length * i.size)
                  rw [hA] at e1
                  rw [e1, ← hfln, ← hnl, List.take_left']
                  rfl
                rw [this]
                exact RepOnes.append (RepOnes.mono (fun b off hS => hkeeps b off (.inl hS)) (fun _ _ x => .inl x) _ _ hrep0) (RepOnes.mono hkeeps (fun _ _ x => x) _ _ hn1)
            · -- there is none
              have hg : cap0 < rows.length + new.length := by omega
              have holds : (Builtin.firstCells i.size rows.length (.slice (some ⟨b, 0, none⟩) rows.length cap0)).run P w.drew = .ok (vs.toList.take (rows.length * i.size)).toArray w.drew := by
                refine run_firstCells_some (P := P) w.drew i.size rows.length ⟨b, 0, none⟩ rows.length cap0 (vs.toList.take (rows.length * i.size)) ?_ ?_
                · have : rows.length * i.size ≤ cap0 * i.size := Nat.mul_le_mul_right _ hle
                  rw [List.length_take]; simp; omega
                · intro j v hj
                  rw [add_none]
                  rw [List.getElem?_take] at hj
                  split at hj
                  · show w.cell? _ = _
                    rw [cell_row hh, Nat.zero_add, ← Array.getElem?_toList]; exact hj
                  · simp at hj
              have hr := append_grow (w := w) (ty := o.type) h0 h1 ht ht' hi hz (base := some ⟨b, 0, none⟩) (sLen := rows.length) (sCap := cap0) holds (hn2 w.drew (hkd rd)) hg (small _ hbytes) (by omega)
              refine fin (blk := some w.heap.size) (by rw [hvx, hvy]; exact hr) (hkal rd _) (h.kept.trans (kept_drew_alloc w _).none) (by simp) (fun id' x b _ hl' hb' => (kept_drew_alloc w _).block b (ObRel.live hb' (h.objs id' x hl')) (fun x => x)) ?_ (fun b hb => .inr (by rw [← Option.some.inj hb]; exact Nat.le_refl _)) (fun b hb => .inr (fun off hS => by have := h00.stab b off hS; rw [← Option.some.inj hb] at this; omega))
              exact grown_ob hzs (RepOnes.mono (fun b off hS => hkal rd _ b off (.inl hS)) (fun _ _ x => .inl x) _ _ hrep0) (RepOnes.mono (hkal rd _) (fun _ _ x => x) _ _ hn1) hlens0 hlens (grownCap_ge' _ _ _) (heap_alloc_at w.drew _)
        · simp at hu
      · simp at hu
    · simp at hu

end
end Go.Vs
