/- Value semantics, part 3: the ways in which a state goes on beside its world. No conditions. -/
import Derived.Test.YtjfleklkloohgaaVs2
set_option linter.unusedVariables false
set_option linter.unusedSimpArgs false
namespace Go.Vs

theorem ObRel.move {w w' : World} {S S' : Stab} (hk : Keeps S w w') (hs : ∀ b o, S b o → S' b o) {μ : Nat → Value} {objs : List (Nat × Ob)} {blk : Option Nat} {mu : Value}
    (hb : ∀ b, blk = some b → w'.heap[b]? = w.heap[b]?) : ∀ {o : Ob}, ObRel w S μ objs blk mu o → ObRel w' S' μ objs blk mu o
  | .box _, ⟨b, vs, e, fr, h1, h2, h3, h0, h4⟩ => ⟨b, vs, e, fr, h1, h2, (hb b h1).trans h3, h0, SVOnes.mono hk hs _ _ h4⟩
  | .arr _ _ _, .inl h => .inl h
  | .arr _ _ _, .inr ⟨b, cap, vs, e, fr, h1, h2, h3, h0, h4, h5, h6, h7⟩ => .inr ⟨b, cap, vs, e, fr, h1, h2, (hb b h1).trans h3, h0, h4, h5, h6, RepOnes.mono hk hs _ _ h7⟩
theorem ObRel.other {w : World} {S : Stab} {μ μ' : Nat → Value} {objs objs' : List (Nat × Ob)} {d : Nat} (hμ : ∀ id, id ≠ d → μ' id = μ id) (ho : ∀ id, id ≠ d → look objs' id = look objs id)
    {blk : Option Nat} {mu : Value} : ∀ {o : Ob}, o.noRef d = true → ObRel w S μ objs blk mu o → ObRel w S μ' objs' blk mu o
  | .box _, hn, ⟨b, vs, e, fr, h1, h2, h3, h0, h4⟩ => ⟨b, vs, e, fr, h1, h2, h3, h0, SVOnes.other hμ ho _ _ hn h4⟩
  | .arr _ _ _, _, h => h
theorem ObRel.erase {w : World} {S : Stab} {μ : Nat → Value} {objs : List (Nat × Ob)} {blk : Option Nat} {mu : Value} (d : Nat) : ∀ {o : Ob}, ObRel w S μ objs blk mu o → ObRel w S μ objs blk mu (o.erase d)
  | .box _, ⟨b, vs, e, fr, h1, h2, h3, h0, h4⟩ => ⟨b, vs, e, fr, h1, h2, h3, h0, SVOnes.erase d h4⟩
  | .arr _ _ _, h => h
theorem ObRel.same {w : World} {S : Stab} {μ μ' : Nat → Value} {objs objs' : List (Nat × Ob)}
    (hb : ∀ id cells, look objs' id = some (.box cells) → ∃ cells', look objs id = some (.box cells') ∧ μ' id = μ id)
    (ha : ∀ id cv s rows, look objs' id = some (.arr cv s rows) → ∃ cv' rows', look objs id = some (.arr cv' s rows') ∧ cv' ≤ cv ∧ (cv' = cv → rows'.length = rows.length ∧ μ' id = μ id))
    {blk : Option Nat} {mu : Value} : ∀ {o : Ob}, ObRel w S μ objs blk mu o → ObRel w S μ' objs' blk mu o
  | .box _, ⟨b, vs, e, fr, h1, h2, h3, h0, h4⟩ => ⟨b, vs, e, fr, h1, h2, h3, h0, SVOnes.same hb ha _ _ h4⟩
  | .arr _ _ _, h => h
theorem Ob.noRef_erase (d : Nat) : ∀ o : Ob, (o.erase d).noRef d = true
  | .box c => noRefs_eraseL d c
  | .arr _ _ _ => rfl

theorem Kept.refl (M : Nat → Prop) (w : World) : Kept M w w := ⟨rfl, rfl, rfl, Nat.le_refl _, fun _ _ _ => rfl⟩
theorem Kept.trans {M : Nat → Prop} {a b c : World} (h : Kept M a b) (k : Kept M b c) : Kept M a c :=
  ⟨k.os.trans h.os, k.tape.trans h.tape, k.output.trans h.output, Nat.le_trans h.size k.size, fun i hi hm => (k.block i (Nat.lt_of_lt_of_le hi h.size) hm).trans (h.block i hi hm)⟩
theorem Kept.none {M : Nat → Prop} {a b : World} (h : Kept (fun _ => False) a b) : Kept M a b :=
  ⟨h.os, h.tape, h.output, h.size, fun i hi _ => h.block i hi (fun x => x)⟩
theorem heap_alloc_lt {w : World} {o : Go.Obj} {k : Nat} (h : k < w.heap.size) : (w.alloc o).heap[k]? = w.heap[k]? := by
  show (w.heap.push o)[k]? = _
  rw [Array.getElem?_push, if_neg (by omega)]
theorem heap_alloc_at (w : World) (o : Go.Obj) : (w.alloc o).heap[w.heap.size]? = some o := by
  show (w.heap.push o)[w.heap.size]? = _
  rw [Array.getElem?_push, if_pos rfl]
theorem cell_of_heap {w w' : World} {b : Nat} (h : w'.heap[b]? = w.heap[b]?) (o : Nat) : w'.cell? ⟨b, o, none⟩ = w.cell? ⟨b, o, none⟩ := by
  simp only [World.cell?, h]
theorem cell_row {w : World} {b : Nat} {vs : Array Value} {e : TypeId} {fr : Nat × Nat} (h : w.heap[b]? = some (.cells vs e fr)) (o : Nat) : w.cell? ⟨b, o, none⟩ = vs[o]? := by
  simp [World.cell?, h]

section sim
variable {w0 w : World} {S0 S : Stab} {M : Ctx} {σ : St} {a : Act} {μ : Nat → Value} {β : Nat → Option Nat}

theorem ObRel.live {blk : Option Nat} {mu : Value} {objs : List (Nat × Ob)} {o : Ob} {b : Nat} (hb : blk = some b) (h : ObRel w S μ objs blk mu o) : b < w.heap.size := by
  have lt : ∀ {x : Go.Obj}, w.heap[b]? = some x → b < w.heap.size := fun hx => by
    rcases Nat.lt_or_ge b w.heap.size with h | h
    · exact h
    · simp [Array.getElem?_eq_none h] at hx
  cases o with
  | box c =>
    obtain ⟨b', vs, e, fr, h1, _, h3, _⟩ := h
    obtain rfl : b' = b := by rw [hb] at h1; exact (Option.some.inj h1).symm
    exact lt h3
  | arr v s rows =>
    rcases h with ⟨_, h1, _⟩ | ⟨b', cap, vs, e, fr, h1, _, h3, _⟩
    · rw [hb] at h1; simp at h1
    · obtain rfl : b' = b := by rw [hb] at h1; exact (Option.some.inj h1).symm
      exact lt h3

/-- A slot. -/
theorem SimG.put (h : SimG w0 S0 M σ a w S μ β) {d : Nat} {sv : SV} {v : Value} (hd : d < σ.n) (hv : SVRel w S μ σ.objs sv v) :
    SimG w0 S0 M { σ with env := put σ.env d sv } (a.put (some d) v) w S μ β :=
  { h with
    defers := h.defers
    size := by simpa [Act.put] using h.size
    env := fun k => by
      show SVRel w S μ σ.objs (getE (Vs.put σ.env d sv) k) ((a.tmps.setIfInBounds d v).getD k Go.undef)
      rw [getE_put]
      by_cases hk : k = d
      · subst hk
        have : k < a.tmps.size := by rw [h.size]; exact hd
        simpa [this] using hv
      · have := h.env k
        rw [if_neg hk]
        have hne : d ≠ k := fun e => hk e.symm
        simpa [Array.getElem?_setIfInBounds_ne hne] using this }

/-- The world goes on, and with it the stable cells; no object turns. -/
theorem SimG.world (h : SimG w0 S0 M σ a w S μ β) {w' : World} {S' : Stab} (hk : Keeps S w w') (hs : ∀ b o, S b o → S' b o)
    (hblk : ∀ id o b, look σ.objs id = some o → β id = some b → w'.heap[b]? = w.heap[b]?)
    (hun : ∀ id o b off, look σ.objs id = some o → β id = some b → S' b off → S b off)
    (hst : ∀ b o, S' b o → b < w'.heap.size) (hback : ∀ b o, S' b o → S b o ∨ w0.heap.size ≤ b ∨ M.blocks b) (hkept : Kept M.blocks w0 w') :
    SimG w0 S0 M σ a w' S' μ β where
  defers := h.defers
  size := h.size
  env := fun k => SVRel.mono hk hs _ _ (h.env k)
  objs := fun id o ho => ObRel.move hk hs (fun b hb => hblk id o b ho hb) (h.objs id o ho)
  inj := h.inj
  own := h.own
  unst := fun id o b off ho hb hS => h.unst id o b off ho hb (hun id o b off ho hb hS)
  stab := hst
  ext := fun b o hb => hs b o (h.ext b o hb)
  back := fun b o hb => (hback b o hb).elim (h.back b o) .inr
  kept := hkept
  hist := fun p hp => SVRel.mono hk hs _ _ (h.hist p hp)
  far := h.far
  glob := fun p hp => RepCells.mono hk hs _ _ _ (h.glob p hp)

/-- A new object. -/
theorem SimG.create' (h : SimG w0 S0 M σ a w S μ β) (d : Nat) (hdn : d < σ.n) (o : Ob) (blk : Option Nat) (mu : Value) {w' : World}
    (hw : Kept (fun _ => False) w w') (hblk : ∀ b, blk = some b → w0.heap.size ≤ b ∧ (∀ off, ¬ S b off) ∧ ∀ id o, look σ.objs id = some o → β id ≠ some b)
    (hob : ObRel w' S μ σ.objs blk mu o) :
    SimG w0 S0 M { σ with env := eraseE d σ.env, objs := eraseO d (Vs.put σ.objs d o) } a w' S (fun id => if id = d then mu else μ id) (fun id => if id = d then blk else β id) := by
  have hheap : ∀ k, k < w.heap.size → w'.heap[k]? = w.heap[k]? := fun k hk => hw.block k hk (fun x => x)
  have hsize : w.heap.size ≤ w'.heap.size := hw.size
  have hkeeps : Keeps S w w' := fun b off hS => cell_of_heap (hheap b (h.stab b off hS)) off
  have hkept : Kept M.blocks w w' := hw.none
  have hμ : ∀ id, id ≠ d → (fun id => if id = d then mu else μ id) id = μ id := fun id hid => if_neg hid
  have hlook : ∀ id, look (eraseO d (Vs.put σ.objs d o)) id = if id = d then some (o.erase d) else (look σ.objs id).map (Ob.erase d) := by
    intro id
    rw [look_eraseO, look_put]
    split <;> rfl
  have hbk : ∀ id x b, look σ.objs id = some x → β id = some b → b < w.heap.size := fun id x b hx hb => ObRel.live hb (h.objs id x hx)
  -- handles do not see that objects' cells are erased
  have hbx : ∀ (ob : List (Nat × Ob)) id cells, (look ob id).map (Ob.erase d) = some (.box cells) → ∃ cells', look ob id = some (.box cells') := by
    intro ob id cells hc
    cases hl : look ob id with
    | none => rw [hl] at hc; simp at hc
    | some y =>
      rw [hl] at hc
      cases y with
      | box c => exact ⟨c, rfl⟩
      | arr => simp [Ob.erase] at hc
  have har : ∀ (ob : List (Nat × Ob)) id cv s rows, (look ob id).map (Ob.erase d) = some (.arr cv s rows) → look ob id = some (.arr cv s rows) := by
    intro ob id cv s rows hc
    cases hl : look ob id with
    | none => rw [hl] at hc; simp at hc
    | some y =>
      rw [hl] at hc
      cases y with
      | box c => simp [Ob.erase] at hc
      | arr => simpa [Ob.erase] using hc
  have s1 : ∀ x v, SVRel w' S μ σ.objs x v → SVRel w' S μ (eraseO d σ.objs) x v := SVRel.same
    (fun id cells hc => by rw [look_eraseO] at hc; obtain ⟨c, h1⟩ := hbx _ _ _ hc; exact ⟨c, h1, rfl⟩)
    (fun id cv s rows hc => by rw [look_eraseO] at hc; exact ⟨cv, rows, har _ _ _ _ _ hc, Nat.le_refl _, fun _ => ⟨rfl, rfl⟩⟩)
  have so : ∀ {bk m x}, ObRel w' S μ σ.objs bk m x → ObRel w' S μ (eraseO d σ.objs) bk m x := ObRel.same
    (fun id cells hc => by rw [look_eraseO] at hc; obtain ⟨c, h1⟩ := hbx _ _ _ hc; exact ⟨c, h1, rfl⟩)
    (fun id cv s rows hc => by rw [look_eraseO] at hc; exact ⟨cv, rows, har _ _ _ _ _ hc, Nat.le_refl _, fun _ => ⟨rfl, rfl⟩⟩)
  have hoth : ∀ id, id ≠ d → look (eraseO d (Vs.put σ.objs d o)) id = look (eraseO d σ.objs) id := by
    intro id hid
    rw [hlook, if_neg hid, look_eraseO]
  refine { defers := h.defers, size := h.size, env := ?_, objs := ?_, inj := ?_, own := ?_, unst := ?_, stab := ?_, ext := h.ext, back := h.back, kept := h.kept.trans hkept, hist := ?_, far := h.far, glob := fun p hp => RepCells.mono hkeeps (fun _ _ x => x) _ _ _ (h.glob p hp) }
  rotate_right 1
  · intro p hp
    exact SVRel.other hμ hoth _ _ (h.far p hp d hdn) (s1 _ _ (SVRel.mono hkeeps (fun _ _ x => x) _ _ (h.hist p hp)))
  · intro k
    show SVRel _ _ _ _ (getE (eraseE d σ.env) k) _
    rw [getE_eraseE]
    exact SVRel.other hμ hoth _ _ (SV.noRef_erase d _) (s1 _ _ (SVRel.erase d (SVRel.mono hkeeps (fun _ _ x => x) _ _ (h.env k))))
  · intro id x hx
    rw [hlook] at hx
    by_cases hid : id = d
    · subst hid
      rw [if_pos rfl] at hx
      obtain rfl := Option.some.inj hx
      simp only [if_pos]
      exact ObRel.other hμ hoth (Ob.noRef_erase _ _) (ObRel.erase _ (so hob))
    · rw [if_neg hid] at hx
      cases hl : look σ.objs id with
      | none => rw [hl] at hx; simp at hx
      | some y =>
        rw [hl] at hx
        obtain rfl := Option.some.inj hx
        simp only [if_neg hid]
        have h0 := h.objs id y hl
        exact ObRel.other hμ hoth (Ob.noRef_erase _ _) (ObRel.erase _ (so (ObRel.move hkeeps (fun _ _ x => x) (fun b hb => hheap b (hbk id y b hl hb)) h0)))
  · intro id id' x x' b hx hx' hb hb'
    rw [hlook] at hx hx'
    by_cases hid : id = d <;> by_cases hid' : id' = d
    · rw [hid, hid']
    · exfalso
      simp only [if_pos hid, if_neg hid'] at hb hb' hx'
      cases hl : look σ.objs id' with
      | none => rw [hl] at hx'; simp at hx'
      | some y => exact (hblk b hb).2.2 id' y hl hb'
    · exfalso
      simp only [if_neg hid, if_pos hid'] at hb hb' hx
      cases hl : look σ.objs id with
      | none => rw [hl] at hx; simp at hx
      | some y => exact (hblk b hb').2.2 id y hl hb
    · simp only [if_neg hid, if_neg hid'] at hb hb' hx hx'
      cases hl : look σ.objs id with
      | none => rw [hl] at hx; simp at hx
      | some y =>
        cases hl' : look σ.objs id' with
        | none => rw [hl'] at hx'; simp at hx'
        | some y' => exact h.inj id id' y y' b hl hl' hb hb'
  · intro id x b hx hb
    rw [hlook] at hx
    by_cases hid : id = d
    · simp only [if_pos hid] at hb
      exact .inl (hblk b hb).1
    · simp only [if_neg hid] at hb hx
      cases hl : look σ.objs id with
      | none => rw [hl] at hx; simp at hx
      | some y => exact h.own id y b hl hb
  · intro id x b off hx hb hS
    rw [hlook] at hx
    by_cases hid : id = d
    · exfalso
      simp only [if_pos hid] at hb
      exact (hblk b hb).2.1 off hS
    · simp only [if_neg hid] at hb hx
      cases hl : look σ.objs id with
      | none => rw [hl] at hx; simp at hx
      | some y =>
        rw [hl] at hx
        obtain rfl := Option.some.inj hx
        obtain ⟨h1, h2⟩ := h.unst id y b off hl hb hS
        refine ⟨h1, fun ver s rows hr => ?_⟩
        cases y with
        | box c => simp [Ob.erase] at hr
        | arr v s' r => exact h2 ver s rows (by simpa [Ob.erase] using hr)
  · intro b off hS
    exact Nat.lt_of_lt_of_le (h.stab b off hS) hsize

theorem SimG.create (h : SimG w0 S0 M σ a w S μ β) (d : Nat) (hdn : d < σ.n) (o : Ob) (blk : Option Nat) (mu : Value) {w' : World}
    (hw : Kept (fun _ => False) w w') (hblk : ∀ b, blk = some b → b = w.heap.size)
    (hob : ObRel w' S μ σ.objs blk mu o) :
    SimG w0 S0 M { σ with env := eraseE d σ.env, objs := eraseO d (Vs.put σ.objs d o) } a w' S (fun id => if id = d then mu else μ id) (fun id => if id = d then blk else β id) :=
  h.create' d hdn o blk mu hw (fun b hb => by
    have hbb := hblk b hb
    subst hbb
    exact ⟨h.kept.size, fun off hS => Nat.lt_irrefl _ (h.stab _ off hS), fun id o hl hb' => Nat.lt_irrefl _ (ObRel.live hb' (h.objs id o hl))⟩) hob

/-- An object turns, in its block or in a new one. -/
theorem SimG.turn (h : SimG w0 S0 M σ a w S μ β) {id : Nat} {o o' : Ob} (hl : look σ.objs id = some o) (blk : Option Nat) (mu : Value) {w' : World}
    (hkeeps : Keeps S w w') (hkept : Kept M.blocks w0 w') (hsize : w.heap.size ≤ w'.heap.size)
    (hblk : ∀ id' x b, id' ≠ id → look σ.objs id' = some x → β id' = some b → w'.heap[b]? = w.heap[b]?)
    (hkind : (∃ c c', o = .box c ∧ o' = .box c' ∧ mu = μ id) ∨
      (∃ cv s rows cv' rows', o = .arr cv s rows ∧ o' = .arr cv' s rows' ∧ cv ≤ cv' ∧ (cv = cv' → rows.length = rows'.length ∧ mu = μ id)))
    (hob : ObRel w' S μ σ.objs blk mu o')
    (hb : ∀ b, blk = some b → (β id = some b ∨ w.heap.size ≤ b))
    (hun : ∀ b off, blk = some b → S b off → id ∈ σ.ro ∧ ∀ ver s rows, o' = .arr ver s rows → off < rows.length * s) :
    SimG w0 S0 M { σ with objs := Vs.put σ.objs id o' } a w' S (fun i => if i = id then mu else μ i) (fun i => if i = id then blk else β i) := by
  have hlook : ∀ i, look (Vs.put σ.objs id o') i = if i = id then some o' else look σ.objs i := fun i => look_put _ _ _ _
  have hbk : ∀ i x b, look σ.objs i = some x → β i = some b → b < w.heap.size := fun i x b hx hb => ObRel.live hb (h.objs i x hx)
  have hbx : ∀ i cells, look (Vs.put σ.objs id o') i = some (.box cells) → ∃ cells', look σ.objs i = some (.box cells') ∧ (fun i => if i = id then mu else μ i) i = μ i := by
    intro i cells hc
    rw [hlook] at hc
    by_cases hi : i = id
    · subst hi
      rw [if_pos rfl] at hc
      obtain rfl := Option.some.inj hc
      rcases hkind with ⟨c, c', rfl, _, hm⟩ | ⟨_, _, _, _, _, _, h2, _⟩
      · exact ⟨c, hl, by simp [hm]⟩
      · simp at h2
    · rw [if_neg hi] at hc
      exact ⟨cells, hc, by simp [hi]⟩
  have har : ∀ i cv s rows, look (Vs.put σ.objs id o') i = some (.arr cv s rows) → ∃ cv' rows', look σ.objs i = some (.arr cv' s rows') ∧ cv' ≤ cv ∧ (cv' = cv → rows'.length = rows.length ∧ (fun i => if i = id then mu else μ i) i = μ i) := by
    intro i cv s rows hc
    rw [hlook] at hc
    by_cases hi : i = id
    · subst hi
      rw [if_pos rfl] at hc
      obtain rfl := Option.some.inj hc
      rcases hkind with ⟨c, c', _, h2, _⟩ | ⟨cv0, s0, rows0, cv1, rows1, rfl, h2, h3, h4⟩
      · simp at h2
      · simp only [Ob.arr.injEq] at h2
        obtain ⟨rfl, rfl, rfl⟩ := h2
        exact ⟨cv0, rows0, hl, h3, fun e => by obtain ⟨h5, h6⟩ := h4 e; exact ⟨h5, by simp [h6]⟩⟩
    · rw [if_neg hi] at hc
      exact ⟨cv, rows, hc, Nat.le_refl _, fun _ => ⟨rfl, by simp [hi]⟩⟩
  refine { defers := h.defers, size := h.size, env := ?_, objs := ?_, inj := ?_, own := ?_, unst := ?_, stab := ?_, ext := h.ext, back := h.back, kept := hkept, hist := fun p hp => SVRel.same hbx har _ _ (SVRel.mono hkeeps (fun _ _ x => x) _ _ (h.hist p hp)), far := h.far, glob := fun p hp => RepCells.mono hkeeps (fun _ _ x => x) _ _ _ (h.glob p hp) }
  · intro k
    exact SVRel.same hbx har _ _ (SVRel.mono hkeeps (fun _ _ x => x) _ _ (h.env k))
  · intro i x hx
    rw [hlook] at hx
    by_cases hi : i = id
    · subst hi
      rw [if_pos rfl] at hx
      obtain rfl := Option.some.inj hx
      simp only [if_pos]
      exact ObRel.same hbx har hob
    · rw [if_neg hi] at hx
      simp only [if_neg hi]
      exact ObRel.same hbx har (ObRel.move hkeeps (fun _ _ x => x) (fun b hb => hblk i x b hi hx hb) (h.objs i x hx))
  · intro i i' x x' b hx hx' hbi hbi'
    rw [hlook] at hx hx'
    by_cases hi : i = id <;> by_cases hi' : i' = id
    · rw [hi, hi']
    · simp only [if_pos hi, if_neg hi'] at hbi hbi' hx'
      rcases hb b hbi with h1 | h1
      · rw [hi]; exact h.inj id i' o x' b hl hx' h1 hbi'
      · exfalso; have := hbk i' x' b hx' hbi'; omega
    · simp only [if_neg hi, if_pos hi'] at hbi hbi' hx
      rcases hb b hbi' with h1 | h1
      · rw [hi']; exact h.inj i id x o b hx hl hbi h1
      · exfalso; have := hbk i x b hx hbi; omega
    · simp only [if_neg hi, if_neg hi'] at hbi hbi' hx hx'
      exact h.inj i i' x x' b hx hx' hbi hbi'
  · intro i x b hx hbi
    rw [hlook] at hx
    by_cases hi : i = id
    · simp only [if_pos hi] at hbi
      rcases hb b hbi with h1 | h1
      · exact h.own id o b hl h1
      · left; have := h.kept.size; omega
    · simp only [if_neg hi] at hbi hx
      exact h.own i x b hx hbi
  · intro i x b off hx hbi hS
    rw [hlook] at hx
    by_cases hi : i = id
    · subst hi
      simp only [if_pos] at hbi
      rw [if_pos rfl] at hx
      obtain rfl := Option.some.inj hx
      exact hun b off hbi hS
    · simp only [if_neg hi] at hbi hx
      exact h.unst i x b off hx hbi hS
  · intro b off hS
    exact Nat.lt_of_lt_of_le (h.stab b off hS) hsize

/-- What is frozen may not be written any more. -/
def frzCells (β : Nat → Option Nat) (objs : List (Nat × Ob)) (fz : List Nat) (b off : Nat) : Prop :=
  ∃ id o, id ∈ fz ∧ look objs id = some o ∧ β id = some b ∧ (∀ ver s rows, o = .arr ver s rows → off < rows.length * s)

theorem SimG.freeze (h : SimG w0 S0 M σ a w S μ β) (fz : List Nat) :
    SimG w0 S0 M { σ with ro := fz ++ σ.ro } a w (fun b off => S b off ∨ frzCells β σ.objs fz b off) μ β where
  defers := h.defers
  size := h.size
  env := fun k => SVRel.mono (Keeps.refl _ _) (fun _ _ x => .inl x) _ _ (h.env k)
  objs := fun id o ho => ObRel.move (Keeps.refl _ _) (fun _ _ x => .inl x) (fun _ _ => rfl) (h.objs id o ho)
  inj := h.inj
  own := h.own
  unst := fun id o b off ho hb hS => by
    rcases hS with hS | ⟨id', o', hf, ho', hb', hr⟩
    · obtain ⟨h1, h2⟩ := h.unst id o b off ho hb hS
      exact ⟨List.mem_append_right _ h1, h2⟩
    · have := h.inj id id' o o' b ho ho' hb hb'
      subst this
      obtain rfl : o = o' := by rw [ho] at ho'; exact Option.some.inj ho'
      exact ⟨List.mem_append_left _ hf, hr⟩
  stab := fun b off hS => by
    rcases hS with hS | ⟨id', o', hf, ho', hb', hr⟩
    · exact h.stab b off hS
    · exact ObRel.live hb' (h.objs id' o' ho')
  ext := fun b o hb => .inl (h.ext b o hb)
  back := fun b off hS => by
    rcases hS with hS | ⟨id', o', hf, ho', hb', hr⟩
    · exact h.back b off hS
    · exact .inr (h.own id' o' b ho' hb')
  kept := h.kept
  hist := fun p hp => SVRel.mono (Keeps.refl _ _) (fun _ _ x => .inl x) _ _ (h.hist p hp)
  far := h.far
  glob := fun p hp => RepCells.mono (Keeps.refl _ _) (fun _ _ x => .inl x) _ _ _ (h.glob p hp)

/-- Fewer slots and objects are known. -/
theorem SimG.drop (h : SimG w0 S0 M σ a w S μ β) {σ' : St} (hn : σ'.n = σ.n) (hgl : σ'.gl = σ.gl) (hro : ∀ i o, look σ'.objs i = some o → i ∈ σ.ro → i ∈ σ'.ro)
    (he : ∀ k, getE σ'.env k = .undef ∨ getE σ'.env k = getE σ.env k)
    (ho : ∀ id o, look σ'.objs id = some o → look σ.objs id = some o) :
    SimG w0 S0 M σ' a w S μ β where
  defers := h.defers
  size := by rw [hn]; exact h.size
  env := fun k => by
    rcases he k with hk | hk
    · rw [hk]; trivial
    · rw [hk]
      exact SVRel.same (fun id cells hc => ⟨cells, ho _ _ hc, rfl⟩) (fun id cv s rows hc => ⟨cv, rows, ho _ _ hc, Nat.le_refl _, fun _ => ⟨rfl, rfl⟩⟩) _ _ (h.env k)
  objs := fun id o hl => ObRel.same (fun id cells hc => ⟨cells, ho _ _ hc, rfl⟩) (fun id cv s rows hc => ⟨cv, rows, ho _ _ hc, Nat.le_refl _, fun _ => ⟨rfl, rfl⟩⟩) (h.objs id o (ho _ _ hl))
  inj := fun id id' o o' b h1 h2 => h.inj id id' o o' b (ho _ _ h1) (ho _ _ h2)
  own := fun id o b h1 => h.own id o b (ho _ _ h1)
  unst := fun id o b off h1 h2 h3 => let ⟨h4, h5⟩ := h.unst id o b off (ho _ _ h1) h2 h3; ⟨hro _ _ h1 h4, h5⟩
  stab := h.stab
  ext := h.ext
  back := h.back
  kept := h.kept
  hist := fun p hp => SVRel.same (fun id cells hc => ⟨cells, ho _ _ hc, rfl⟩) (fun id cv s rows hc => ⟨cv, rows, ho _ _ hc, Nat.le_refl _, fun _ => ⟨rfl, rfl⟩⟩) _ _ (h.hist p hp)
  far := fun p hp d hd => h.far p hp d (by rw [← hn]; exact hd)
  glob := fun p hp => h.glob p (by rw [← hgl]; exact hp)
end sim
end Go.Vs
