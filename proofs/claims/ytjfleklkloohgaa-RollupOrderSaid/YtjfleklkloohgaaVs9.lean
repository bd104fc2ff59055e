/- Value semantics, part 9: lengths, pieces of strings and slices, and the operations that make an object, hold what the evaluator says. No conditions. -/
import Derived.Test.YtjfleklkloohgaaVs8
set_option linter.unusedVariables false
set_option linter.unusedSimpArgs false
namespace Go.Vs

section
variable {P : Program} {w0 w : World} {S0 S : Stab} {M : Ctx} {σ : St} {a : Act} {μ : Nat → Value} {β : Nat → Option Nat} {o : Oper}

theorem exec_builtin {c : Call} {b : Builtin} (ho : o.op = .call c) (hb : c.callee = .builtin b) :
    ∃ consts, execOp a.eval o = builtin b c.argTypes o.type consts (c.args.map a.eval) := by
  refine ⟨c.args.map fun x => match x with | .const _ => true | _ => false, ?_⟩
  simp only [execOp, ho, resolve, hb]
  rfl

theorem toList_one {α : Type} {x : α} {l : Array α} (h : l.toList = [x]) : l = #[x] := by
  apply Array.toList_inj.1; simpa using h
theorem toList_two {α : Type} {x y : α} {l : Array α} (h : l.toList = [x, y]) : l = #[x, y] := by
  apply Array.toList_inj.1; simpa using h

theorem snd_len (h : SimG w0 S0 M σ a w S μ β) (hd : ∀ d, o.dst = some d → d < σ.n) {c : Call} {t : TypeId} {d : TypeDesc} {x : Operand} {x' : Opd} (ho : o.op = .call c) (hb : c.callee = .builtin .len) (hat : c.argTypes[0]? = some t)
    (hal : c.args.toList = [x]) (ht : P.underlying t = some d) (hx : compOpd x = some x') :
    (d = .string → ∀ u, ev σ o.dst (.lenS x') = some u → Does P o a w (fun v w' => Sim w0 S0 M (σ.apply o.dst u) (a.put o.dst v) w')) ∧
    (∀ e, d = .slice e → ∀ u, ev σ o.dst (.lenV x') = some u → Does P o a w (fun v w' => Sim w0 S0 M (σ.apply o.dst u) (a.put o.dst v) w')) ∧
    (∀ n e, d = .array n e → ∀ u, ev σ o.dst (.lenC n x') = some u → Does P o a w (fun v w' => Sim w0 S0 M (σ.apply o.dst u) (a.put o.dst v) w')) := by
  have hrel := opd_sound h hx
  obtain ⟨consts, hex⟩ := exec_builtin (a := a) ho hb
  have hargs := toList_one hal
  refine ⟨?_, ?_, ?_⟩
  · rintro rfl u hu
    simp only [ev] at hu
    split at hu
    · next s heq =>
      rw [heq] at hrel
      obtain rfl := Option.some.inj hu
      have hv : a.eval x = .string ⟨s.toArray⟩ := hrel
      refine does_pure0 h hd (v := .int .i64 s.length) ?_ rfl
      rw [hex, hargs]
      simp [builtin, Builtin.len_, hat, hv, run_underlying ht, ba_size, goInt]
    · simp at hu
  · rintro e rfl u hu
    simp only [ev] at hu
    split at hu
    · next id ver lo hi heq =>
      rw [heq] at hrel
      split at hu
      · next cv s rows hl =>
        split at hu
        · next hver =>
          obtain rfl : ver = cv := by simpa using hver
          obtain rfl := Option.some.inj hu
          obtain ⟨g1, g2, x1, cap, y1, g3, g4, g5, g6⟩ := (hrel _ _ _ hl).2 rfl
          refine does_pure0 h hd (v := .int .i64 (hi - lo : Nat)) ?_ rfl
          rw [hex, hargs]
          simp [builtin, Builtin.len_, hat, g4, run_underlying ht, goInt]
        · simp at hu
      · simp at hu
    · split at hu
      · next rows fz heq =>
        obtain rfl := Option.some.inj hu
        obtain ⟨ad, cap, hv, _, _⟩ := rowsOf_sound h heq hrel
        refine does_pure0 h hd (v := .int .i64 rows.length) ?_ rfl
        rw [hex, hargs]
        simp [builtin, Builtin.len_, hat, hv, run_underlying ht, goInt]
      · simp at hu
  · rintro n e rfl u hu
    simp only [ev] at hu
    obtain rfl := Option.some.inj hu
    refine does_pure0 h hd (v := .int .i64 n) ?_ rfl
    rw [hex, hargs]
    simp [builtin, Builtin.len_, hat, run_underlying ht, goInt]

theorem snd_max (h : SimG w0 S0 M σ a w S μ β) (hd : ∀ d, o.dst = some d → d < σ.n) {c : Call} {x y : Operand} {x' y' : Opd} (ho : o.op = .call c) 
    (hal : c.args.toList = [x, y]) (hx : compOpd x = some x') (hy : compOpd y = some y') :
    (c.callee = .builtin .max → ∀ u, ev σ o.dst (.maxI x' y') = some u → Does P o a w (fun v w' => Sim w0 S0 M (σ.apply o.dst u) (a.put o.dst v) w')) ∧
    (c.callee = .builtin .min → ∀ u, ev σ o.dst (.minI x' y') = some u → Does P o a w (fun v w' => Sim w0 S0 M (σ.apply o.dst u) (a.put o.dst v) w')) := by
  have hrel := opd_sound h hx
  have hrel2 := opd_sound h hy
  have hargs := toList_two hal
  refine ⟨fun hb u hu => ?_, fun hb u hu => ?_⟩
  · obtain ⟨consts, hex⟩ := exec_builtin (a := a) ho hb
    simp only [ev] at hu
    split at hu
    · next k m k' n h1 h2 =>
      rw [h1] at hrel
      rw [h2] at hrel2
      split at hu
      · next hk =>
        subst hk
        obtain rfl := Option.some.inj hu
        have hv1 : a.eval x = .int k m := hrel
        have hv2 : a.eval y = .int k n := hrel2
        refine does_pure0 h hd (v := .int k (max m n)) ?_ rfl
        rw [hex, hargs]
        have : (if n > m then n else m) = max m n := by split <;> omega
        simp [builtin, Builtin.max_, Builtin.max2, hv1, hv2, this]
      · simp at hu
    · simp at hu
  · obtain ⟨consts, hex⟩ := exec_builtin (a := a) ho hb
    simp only [ev] at hu
    split at hu
    · next k m k' n h1 h2 =>
      rw [h1] at hrel
      rw [h2] at hrel2
      split at hu
      · next hk =>
        subst hk
        obtain rfl := Option.some.inj hu
        have hv1 : a.eval x = .int k m := hrel
        have hv2 : a.eval y = .int k n := hrel2
        refine does_pure0 h hd (v := .int k (min m n)) ?_ rfl
        rw [hex, hargs]
        have : (if n < m then n else m) = min m n := by split <;> omega
        simp [builtin, Builtin.min_, Builtin.min2, hv1, hv2, this]
      · simp at hu
    · simp at hu

theorem bound_sound (h : SimG w0 S0 M σ a w S μ β) {dflt : Nat} {x : Option Operand} {x' : Option Opd} (hx : compOpt x = some x') {n : Int} (hb : bound σ dflt x' = some n) :
    (x = none ∧ n = dflt) ∨ (∃ y k, x = some y ∧ a.eval y = .int k n) := by
  cases x with
  | none =>
    simp only [compOpt, Option.some.injEq] at hx
    subst hx
    simp only [bound, Option.some.injEq] at hb
    exact .inl ⟨rfl, hb.symm⟩
  | some y =>
    simp only [compOpt, Option.map_eq_some_iff] at hx
    obtain ⟨z, h1, rfl⟩ := hx
    obtain ⟨k, h2⟩ := intOf_sound (opd_sound h h1) hb
    exact .inr ⟨y, k, rfl, h2⟩

theorem run_sliceBound {k : IntKind} {n : Int} {y : Nat} {code : BoundsCode} (h0 : 0 ≤ n) (h1 : n ≤ y) : (Instr.sliceBound (.int k n) y code).run P w = .ok n.toNat w := by
  simp [Instr.sliceBound, asIntOf, h0, h1]

theorem run_sliceBounds (h : SimG w0 S0 M σ a w S μ β) {lo hi : Option Operand} {lo' hi' : Option Opd} (hl : compOpt lo = some lo') (hh : compOpt hi = some hi') {len cap : Nat} {l r : Int}
    (bl : bound σ 0 lo' = some l) (bh : bound σ len hi' = some r) (h0 : 0 ≤ l) (h1 : l ≤ r) (h2 : r ≤ cap) (isS : Bool) :
    (Instr.sliceBounds isS len cap (lo.map a.eval) (hi.map a.eval) none).run P w = .ok (l.toNat, r.toNat, cap) w := by
  rcases bound_sound h hl bl with ⟨rfl, rfl⟩ | ⟨y, k, rfl, hy⟩ <;> rcases bound_sound h hh bh with ⟨rfl, rfl⟩ | ⟨z, k', rfl, hz⟩
  · simp [Instr.sliceBounds]
  · have := run_sliceBound (P := P) (w := w) (k := k') (n := r) (y := cap) (code := if isS then .sliceAcap else .sliceAlen) (by omega) h2
    simp [Instr.sliceBounds, hz, this]
  · have := run_sliceBound (P := P) (w := w) (k := k) (n := l) (y := len) (code := .sliceB) h0 h1
    simp [Instr.sliceBounds, hy, this]
  · have g1 := run_sliceBound (P := P) (w := w) (k := k') (n := r) (y := cap) (code := if isS then .sliceAcap else .sliceAlen) (by omega) h2
    have g2 := run_sliceBound (P := P) (w := w) (k := k) (n := l) (y := r.toNat) (code := .sliceB) h0 (by omega)
    simp [Instr.sliceBounds, hy, hz, g1, g2]

theorem run_sliceBounds3 (h : SimG w0 S0 M σ a w S μ β) {lo hi : Option Operand} {lo' hi' : Option Opd} (hl : compOpt lo = some lo') (hh : compOpt hi = some hi') {len cap : Nat} {l r m : Int} {y : Value} {k0 : IntKind} (hy0 : y = .int k0 m)
    (bl : bound σ 0 lo' = some l) (bh : bound σ len hi' = some r) (h0 : 0 ≤ l) (h1 : l ≤ r) (h2 : r ≤ m) (h3 : m ≤ cap) (hsome : hi ≠ none) (isS : Bool) :
    (Instr.sliceBounds isS len cap (lo.map a.eval) (hi.map a.eval) (some y)).run P w = .ok (l.toNat, r.toNat, m.toNat) w := by
  subst hy0
  have g0 := run_sliceBound (P := P) (w := w) (k := k0) (n := m) (y := cap) (code := if isS then .slice3Acap else .slice3Alen) (by omega) h3
  rcases bound_sound h hl bl with ⟨rfl, rfl⟩ | ⟨y, k, rfl, hy⟩ <;> rcases bound_sound h hh bh with ⟨rfl, rfl⟩ | ⟨z, k', rfl, hz⟩
  · exact absurd rfl hsome
  · have := run_sliceBound (P := P) (w := w) (k := k') (n := r) (y := m.toNat) (code := .slice3B) (by omega) (by omega)
    simp [Instr.sliceBounds, hz, this, g0]
  · exact absurd rfl hsome
  · have g1 := run_sliceBound (P := P) (w := w) (k := k') (n := r) (y := m.toNat) (code := .slice3B) (by omega) (by omega)
    have g2 := run_sliceBound (P := P) (w := w) (k := k) (n := l) (y := r.toNat) (code := .slice3C) h0 (by omega)
    simp [Instr.sliceBounds, hy, hz, g0, g1, g2]

theorem exec_slice {t : TypeId} {x : Operand} {lo hi mx : Option Operand} (ho : o.op = .slice t x lo hi mx) {d : TypeDesc} (ht : P.underlying t = some d) (hn : isAggD d = false) :
    (execOp a.eval o).run P w = ((Instr.slice t (a.eval x) (lo.map a.eval) (hi.map a.eval) (mx.map a.eval)).run P w).andThen fun v w' => .ok (.value v) w' := by
  simp only [execOp, ho, Instr.sliceAt, Sem.run_bind, run_underlying ht, Result.andThen_ok]
  cases d <;> first | rfl | (simp [isAggD] at hn)

theorem snd_subS (h : SimG w0 S0 M σ a w S μ β) (hd : ∀ d, o.dst = some d → d < σ.n) {t : TypeId} {x : Operand} {lo hi : Option Operand} {x' : Opd} {lo' hi' : Option Opd} (ho : o.op = .slice t x lo hi none) (ht : P.underlying t = some .string)
    (hx : compOpd x = some x') (hl : compOpt lo = some lo') (hh : compOpt hi = some hi') {u : Upd} (hu : ev σ o.dst (.subS x' lo' hi') = some u) (hs : u.side) :
    Does P o a w (fun v w' => Sim w0 S0 M (σ.apply o.dst u) (a.put o.dst v) w') := by
  have hrel := opd_sound h hx
  simp only [ev] at hu
  split at hu
  · next s heq =>
    rw [heq] at hrel
    split at hu
    · next l r bl bh =>
      obtain rfl := Option.some.inj hu
      obtain ⟨h0, h1, h2⟩ : 0 ≤ l ∧ l ≤ r ∧ r ≤ s.length := hs
      have hv : a.eval x = .string ⟨s.toArray⟩ := hrel
      refine does_pure0 h hd (v := .string ⟨((s.take r.toNat).drop l.toNat).toArray⟩) ?_ rfl
      rw [exec_slice ho ht rfl]
      have := run_sliceBounds (P := P) (w := w) (len := s.length) (cap := s.length) h hl hh bl bh h0 h1 h2 false
      simp only [Instr.slice, hv, Sem.run_bind, run_underlying ht, Result.andThen_ok, Option.map_none, Option.isSome_none, Bool.false_eq_true, if_false, ba_size, this, Sem.run_pure, ba_extract]
    · simp at hu
  · simp at hu

theorem own_view (h : SimG w0 S0 M σ a w S μ β) {id cv s : Nat} {rows : List (List IV)} (hl : look σ.objs id = some (.arr cv s rows)) {v : Value} (hr : SVRel w S μ σ.objs (.own id cv) v) : SVRel w S μ σ.objs (.view id cv 0 rows.length) v := by
  intro cv' s' rows' hl'
  rw [hl] at hl'
  simp only [Option.some.injEq, Ob.arr.injEq] at hl'
  obtain ⟨rfl, rfl, rfl⟩ := hl'
  have hv := (hr _ _ _ hl).2 rfl
  refine ⟨Nat.le_refl _, fun _ => ⟨Nat.zero_le _, Nat.le_refl _, ?_⟩⟩
  rcases h.objs id _ hl with ⟨z1, _, x, z2⟩ | ⟨b, cap, _, _, _, _, z2, _⟩
  · subst z1
    exact ⟨x, 0, x, z2, by rw [hv, z2]; rfl, fun _ => rfl, fun hh => absurd hh (Nat.lt_irrefl _)⟩
  · exact ⟨_, cap, _, z2, by rw [hv, z2]; rfl, fun _ => rfl, fun _ => ⟨b, rfl, by simp⟩⟩

theorem snd_evSub (h : SimG w0 S0 M σ a w S μ β) (hd : ∀ d, o.dst = some d → d < σ.n) {t e : TypeId} {s : Nat} {x : Operand} {lo hi mx : Option Operand} {lo' hi' mx' : Option Opd} (ho : o.op = .slice t x lo hi mx) (ht : P.underlying t = some (.slice e)) (hsz : sizeT P e = some s)
    (hl : compOpt lo = some lo') (hh : compOpt hi = some hi') (hm : compOpt mx = some mx') {id cv s' lo0 hi0 : Nat} {rows : List (List IV)} (hlk : look σ.objs id = some (.arr cv s' rows)) (hrel : SVRel w S μ σ.objs (.view id cv lo0 hi0) (a.eval x))
    {u : Upd} (hu : evSub σ s id cv s' lo0 hi0 rows.length lo' hi' mx' = some u) (hs : u.side) :
    Does P o a w (fun v w' => Sim w0 S0 M (σ.apply o.dst u) (a.put o.dst v) w') := by
  obtain ⟨g1, g2, x1, cap, y1, g3, g4, g5, g6⟩ := (hrel _ _ _ hlk).2 rfl
  have hcap : rows.length ≤ cap := by
    rcases h.objs id _ hlk with ⟨z1, _, x, z2⟩ | ⟨b, cap', _, _, _, _, z2, _, _, _, z3, _⟩
    · rw [z2] at g3; simp only [Value.slice.injEq] at g3; omega
    · rw [z2] at g3; simp only [Value.slice.injEq] at g3; omega
  unfold evSub at hu
  split at hu
  · next l r bl bh =>
    split at hu
    · obtain rfl := Option.some.inj hu
      obtain ⟨⟨h0, h1, h2⟩, hst⟩ : (0 ≤ l ∧ l ≤ r ∧ r ≤ (rows.length - lo0 : Nat)) ∧ s' = s := hs
      subst hst
      have hmx : mx = none := by
        cases mx with
        | none => rfl
        | some y => simp [compOpt] at hm
      subst hmx
      refine does_pure0 h hd (v := .slice (if cap - lo0 = l.toNat then y1 else y1.map (·.add (l.toNat * s'))) (r.toNat - l.toNat) (cap - lo0 - l.toNat)) ?_ ?_
      · rw [exec_slice ho ht rfl]
        have := run_sliceBounds (P := P) (w := w) (len := hi0 - lo0) (cap := cap - lo0) h hl hh bl bh h0 h1 (by omega) true
        simp only [Instr.slice, g4, Sem.run_bind, run_underlying ht, Result.andThen_ok, Option.map_none, this, run_sizeT hsz, Sem.run_pure]
      · intro cv' s'' rows' hl'
        rw [hlk] at hl'
        simp only [Option.some.injEq, Ob.arr.injEq] at hl'
        obtain ⟨rfl, rfl, rfl⟩ := hl'
        refine ⟨Nat.le_refl _, fun _ => ⟨by omega, by omega, x1, cap, (if cap - lo0 = l.toNat then y1 else y1.map (·.add (l.toNat * s'))), g3, ?_, fun hz => ?_, fun hlt => ?_⟩⟩
        · congr 1 <;> omega
        · have : l.toNat = 0 := by omega
          have hz0 : lo0 = 0 := by omega
          rw [this]
          split
          · exact g5 hz0
          · rw [g5 hz0]
            cases x1 with
            | none => rfl
            | some ad => simp [Addr.add]
        · obtain ⟨b, k1, k2⟩ := g6 (by omega)
          refine ⟨b, k1, ?_⟩
          rw [if_neg (by omega), k2]
          simp [add_none, Nat.add_mul]
    · next m =>
      split at hu
      · next n hn =>
        obtain ⟨y, rfl⟩ : ∃ y, mx = some y := by
          cases mx with
          | none => simp [compOpt] at hm
          | some y => exact ⟨y, rfl⟩
        simp only [compOpt, Option.map_eq_some_iff, Option.some.injEq] at hm
        obtain ⟨z, hz, rfl⟩ := hm
        obtain ⟨k, hyv⟩ := intOf_sound (opd_sound h hz) hn
        obtain rfl := Option.some.inj hu
        obtain ⟨h0, h1, h2, h3, hsome⟩ : 0 ≤ l ∧ l ≤ r ∧ r ≤ n ∧ n ≤ (hi0 - lo0 : Nat) ∧ hi'.isSome = true := hs
        have hhi : hi ≠ none := by
          rintro rfl
          simp only [compOpt, Option.some.injEq] at hh
          subst hh; simp at hsome
        refine does_pure0 h hd (v := .slice (if n.toNat = l.toNat then y1 else y1.map (·.add (l.toNat * s))) (r.toNat - l.toNat) (n.toNat - l.toNat)) ?_ trivial
        rw [exec_slice ho ht rfl]
        have := run_sliceBounds3 (P := P) (w := w) (len := hi0 - lo0) (cap := cap - lo0) h hl hh hyv bl bh h0 h1 h2 (by omega) hhi true
        simp only [Option.map_some]
        simp only [Instr.slice, g4, Sem.run_bind, run_underlying ht, Result.andThen_ok, this, run_sizeT hsz, Sem.run_pure]
      · simp at hu
  · simp at hu

theorem snd_subV (h : SimG w0 S0 M σ a w S μ β) (hd : ∀ d, o.dst = some d → d < σ.n) {t e : TypeId} {s : Nat} {x : Operand} {lo hi mx : Option Operand} {x' : Opd} {lo' hi' mx' : Option Opd} (ho : o.op = .slice t x lo hi mx) (ht : P.underlying t = some (.slice e)) (hsz : sizeT P e = some s)
    (hx : compOpd x = some x') (hl : compOpt lo = some lo') (hh : compOpt hi = some hi') (hm : compOpt mx = some mx') {u : Upd} (hu : ev σ o.dst (.subV s x' lo' hi' mx') = some u) (hs : u.side) :
    Does P o a w (fun v w' => Sim w0 S0 M (σ.apply o.dst u) (a.put o.dst v) w') := by
  have hrel := opd_sound h hx
  simp only [ev] at hu
  split at hu
  · next id ver heq =>
    rw [heq] at hrel
    split at hu
    · next cv s' rows hlk =>
      split at hu
      · next hver =>
        obtain rfl : ver = cv := by simpa using hver
        exact snd_evSub h hd ho ht hsz hl hh hm hlk (own_view h hlk hrel) hu hs
      · simp at hu
    · simp at hu
  · next id ver lo0 hi0 heq =>
    rw [heq] at hrel
    split at hu
    · next cv s' rows hlk =>
      split at hu
      · next hver =>
        obtain rfl : ver = cv := by simpa using hver
        exact snd_evSub h hd ho ht hsz hl hh hm hlk hrel hu hs
      · simp at hu
    · simp at hu
  split at hu
  · next rows rd heq =>
    obtain ⟨ad, cap, hv, hle, hc⟩ := rowsOf_sound h heq hrel
    split at hu
    · next l r bl bh =>
      -- the piece, wherever it stands
      have piece : ∀ (c' : Nat), 0 ≤ l → l ≤ r → r ≤ rows.length → c' ≥ (r - l).toNat → (∀ z, z = l.toNat * s → ∃ ad', (if c' = cap ∧ l.toNat = 0 then ad else ad.map (·.add z)) = ad') →
          ∀ ad', ((rows.take r.toNat).drop l.toNat ≠ [] → ∃ b off s', ad = some ⟨b, off, none⟩ ∧ RepRows w (Plus S β σ.objs rd) rows s' b off ∧ ad' = some ⟨b, off + l.toNat * s', none⟩) →
          Rep w (Plus S β σ.objs rd) (.slice ((rows.take r.toNat).drop l.toNat)) (.slice ad' (r.toNat - l.toNat) c') := by
        intro c' h0 h1 h2 hc' _ ad' hne
        have hlen : ((rows.take r.toNat).drop l.toNat).length = r.toNat - l.toNat := by
          rw [List.length_drop, List.length_take]; omega
        refine ⟨ad', c', by rw [hlen], by rw [hlen]; omega, fun hn => ?_⟩
        obtain ⟨b, off, s', _, hrows, rfl⟩ := hne hn
        exact ⟨b, _, s', rfl, RepRows.drop _ (RepRows.take _ hrows)⟩
      -- the stride is the type's
      have addr : ∀ (ne : (rows.take r.toNat).drop l.toNat ≠ []) (c : Prop) [Decidable c], (c → l.toNat = 0) → s ≠ 0 ∨ True →
          (∀ row ∈ rows, row.length = s) → ∃ b off s', ad = some ⟨b, off, none⟩ ∧ RepRows w (Plus S β σ.objs rd) rows s' b off ∧ (if c then ad else ad.map (·.add (l.toNat * s))) = some ⟨b, off + l.toNat * s', none⟩ := by
        intro ne c _ hc0 _ hst
        have hrne : rows ≠ [] := by intro e; subst e; simp at ne
        obtain ⟨b, off, s', rfl, hrows⟩ := hc hrne
        refine ⟨b, off, s', rfl, hrows, ?_⟩
        obtain ⟨row, hrow⟩ := List.exists_mem_of_ne_nil rows hrne
        have : s' = s := (RepRows.lens hrows row hrow).symm.trans (hst row hrow)
        subst this
        by_cases hcc : c
        · rw [if_pos hcc, hc0 hcc]; simp
        · rw [if_neg hcc]; simp [add_none]
      split at hu
      · obtain rfl := Option.some.inj hu
        obtain ⟨⟨h0, h1, h2⟩, hst⟩ : (0 ≤ l ∧ l ≤ r ∧ r ≤ rows.length) ∧ ∀ row ∈ rows, row.length = s := hs
        have hmx : mx = none := by
          cases mx with
          | none => rfl
          | some y => simp [compOpt] at hm
        subst hmx
        refine does_pure h hd (v := .slice (if cap = l.toNat then ad else ad.map (·.add (l.toNat * s))) (r.toNat - l.toNat) (cap - l.toNat)) ?_ ?_
        · rw [exec_slice ho ht rfl]
          have := run_sliceBounds (P := P) (w := w) (len := rows.length) (cap := cap) h hl hh bl bh h0 h1 (by omega) true
          simp only [Instr.slice, hv, Sem.run_bind, run_underlying ht, Result.andThen_ok, Option.map_none, this, run_sizeT hsz, Sem.run_pure]
        · refine piece _ h0 h1 h2 (by omega) (fun z _ => ⟨_, rfl⟩) _ (fun ne => ?_)
          by_cases hcl : cap = l.toNat
          · exfalso
            have : ((rows.take r.toNat).drop l.toNat).length = 0 := by rw [List.length_drop, List.length_take]; omega
            exact ne (List.length_eq_zero_iff.1 this)
          · rw [if_neg hcl]
            have := addr ne False (fun x => x.elim) (.inr trivial) hst
            simpa using this
      · next m =>
        split at hu
        · next n hn =>
          obtain ⟨y, rfl⟩ : ∃ y, mx = some y := by
            cases mx with
            | none => simp [compOpt] at hm
            | some y => exact ⟨y, rfl⟩
          simp only [compOpt, Option.map_eq_some_iff, Option.some.injEq] at hm
          obtain ⟨z, hz, rfl⟩ := hm
          obtain ⟨k, hyv⟩ := intOf_sound (opd_sound h hz) hn
          split at hu
          · next hn0 =>
            obtain rfl := Option.some.inj hu
            obtain ⟨h0, h1, hsome⟩ : l = 0 ∧ r = 0 ∧ hi'.isSome = true := hs
            subst hn0
            have hhi : hi ≠ none := by
              rintro rfl
              simp only [compOpt, Option.some.injEq] at hh
              subst hh; simp at hsome
            refine does_pure0 h hd (v := .slice ad 0 0) ?_ ⟨ad, rfl⟩
            rw [exec_slice ho ht rfl]
            have := run_sliceBounds3 (P := P) (w := w) (len := rows.length) (cap := cap) h hl hh hyv bl bh (by omega) (by omega) (by omega) (by omega) hhi true
            simp only [Option.map_some]
            simp only [Instr.slice, hv, Sem.run_bind, run_underlying ht, Result.andThen_ok, this, run_sizeT hsz, Sem.run_pure]
            subst h0; subst h1
            simp
          · next hn0 =>
            obtain rfl := Option.some.inj hu
            obtain ⟨⟨h0, h1, h2, h3, hsome⟩, hst⟩ : (0 ≤ l ∧ l ≤ r ∧ r = n ∧ r ≤ rows.length ∧ hi'.isSome = true) ∧ ∀ row ∈ rows, row.length = s := hs
            have hhi : hi ≠ none := by
              rintro rfl
              simp only [compOpt, Option.some.injEq] at hh
              subst hh; simp at hsome
            refine does_pure h hd (v := .slice (if n.toNat = l.toNat then ad else ad.map (·.add (l.toNat * s))) (r.toNat - l.toNat) (n.toNat - l.toNat)) ?_ ⟨?_, ?_⟩
            · rw [exec_slice ho ht rfl]
              have := run_sliceBounds3 (P := P) (w := w) (len := rows.length) (cap := cap) h hl hh hyv bl bh h0 h1 (by omega) (by omega) hhi true
              simp only [Option.map_some]
              simp only [Instr.slice, hv, Sem.run_bind, run_underlying ht, Result.andThen_ok, this, run_sizeT hsz, Sem.run_pure]
            · refine piece _ h0 h1 h3 (by omega) (fun z _ => ⟨_, rfl⟩) _ (fun ne => ?_)
              by_cases hcl : n.toNat = l.toNat
              · exfalso
                have : ((rows.take r.toNat).drop l.toNat).length = 0 := by rw [List.length_drop, List.length_take]; omega
                exact ne (List.length_eq_zero_iff.1 this)
              · rw [if_neg hcl]
                have := addr ne False (fun x => x.elim) (.inr trivial) hst
                simpa using this
            · refine ⟨if n.toNat = l.toNat then ad else ad.map (·.add (l.toNat * s)), ?_⟩
              have hlen : ((rows.take r.toNat).drop l.toNat).length = r.toNat - l.toNat := by
                rw [List.length_drop, List.length_take]; omega
              rw [hlen, h2]
        · simp at hu
    · simp at hu
  · simp at hu

/-- A new object, and its handle. -/
theorem does_new (h : SimG w0 S0 M σ a w S μ β) {d : Nat} (hdst : o.dst = some d) (hd : d < σ.n) {ob : Ob} {sv : SV} {fz : List Nat} {side : Prop} {blk : Option Nat} {mu v : Value} {w' : World}
    (hrun : (execOp a.eval o).run P w = .ok (.value v) w') (hw : Kept (fun _ => False) w w') (hblk : ∀ b, blk = some b → b = w.heap.size)
    (hob : ObRel w' (Plus S β σ.objs fz) μ σ.objs blk mu ob)
    (hv : (∃ cells, ob = .box cells) ∧ sv = .loc d 0 ∧ v = mu ∧ (∃ b, mu = .pointer (some ⟨b, 0, none⟩)) ∨ (∃ s rows, ob = .arr 0 s rows) ∧ sv = .own d 0 ∧ v = mu) :
    Does P o a w (fun v w' => Sim w0 S0 M (σ.apply o.dst { v := sv, side := side, new := some ob, fz := fz }) (a.put o.dst v) w') := by
  refine ⟨_, v, w', hrun, .inl rfl, Plus S β σ.objs fz, (fun id => if id = d then mu else μ id), (fun id => if id = d then blk else β id), ?_⟩
  rw [hdst]
  have h1 := (h.freeze fz).create d hd ob blk mu hw hblk hob
  refine h1.put hd ?_
  rcases hv with ⟨⟨cells, rfl⟩, rfl, rfl, b, rfl⟩ | ⟨⟨s, rows, rfl⟩, rfl, rfl⟩
  · intro cells' _
    exact ⟨b, by simp, rfl⟩
  · intro cv s' rows' hl
    rw [look_eraseO, look_put_self] at hl
    simp only [Option.map_some, Ob.erase, Option.some.injEq, Ob.arr.injEq] at hl
    obtain ⟨rfl, _, _⟩ := hl
    exact ⟨Nat.le_refl _, fun _ => by simp⟩

theorem kept_alloc (w : World) (x : Go.Obj) : Kept (fun _ => False) w (w.alloc x) :=
  ⟨rfl, rfl, rfl, by simp, fun _ hk _ => heap_alloc_lt hk⟩
theorem keeps_alloc (h : SimG w0 S0 M σ a w S μ β) (x : Go.Obj) : Keeps S w (w.alloc x) := fun b o hS => cell_of_heap (heap_alloc_lt (h.stab b o hS)) o

theorem zeroT_some {t : TypeId} {z : List SV} (h : zeroT P t = some z) : ∃ i v, P.info? t = some i ∧ i.zero = some v ∧ constSVs v.cells.toList = some z := by
  unfold zeroT at h
  split at h
  · next v hv =>
    cases hi : P.info? t with
    | none => rw [hi] at hv; simp at hv
    | some i => rw [hi] at hv; exact ⟨i, v, rfl, by simpa using hv, h⟩
  · simp at h
theorem run_ti {t : TypeId} {i : TypeInfo} (h : P.info? t = some i) (w : World) : (typeInfo t).run P w = .ok i w := by simp [typeInfo, h]
theorem run_zeroValue {t : TypeId} {i : TypeInfo} {v : Value} (h : P.info? t = some i) (hz : i.zero = some v) (w : World) : (zeroValue t).run P w = .ok v w := by
  simp [zeroValue, typeInfo, h, hz]

theorem snd_alloc (h : SimG w0 S0 M σ a w S μ β) (hd : ∀ d, o.dst = some d → d < σ.n) {t : TypeId} {z : List SV} (ho : o.op = .alloc t) (hz : zeroT P t = some z) {u : Upd} (hu : ev σ o.dst (.alloc z) = some u) :
    Does P o a w (fun v w' => Sim w0 S0 M (σ.apply o.dst u) (a.put o.dst v) w') := by
  obtain ⟨i, v, h1, h2, h3⟩ := zeroT_some hz
  simp only [ev] at hu
  split at hu
  · next d hdst =>
    obtain rfl := Option.some.inj hu

    refine does_new h hdst (hd d hdst) (blk := some w.heap.size) (mu := .pointer (some ⟨w.heap.size, 0, none⟩)) (v := .pointer (some ⟨w.heap.size, 0, none⟩)) (w' := w.alloc (.cells v.cells t)) ?_ (kept_alloc _ _) (fun b hb => (Option.some.inj hb).symm) ?_ (.inl ⟨⟨_, rfl⟩, rfl, rfl, _, rfl⟩)
    · simp [execOp, ho, Instr.alloc, run_zeroValue h1 h2, newVar, newRow]
    · exact ⟨_, v.cells, t, (0, 0), rfl, rfl, heap_alloc_at _ _, NoFrz.zero _, constSVs_sound h3⟩
  · simp at hu

theorem snd_box (h : SimG w0 S0 M σ a w S μ β) (hd : ∀ d, o.dst = some d → d < σ.n) {t : TypeId} {x : Operand} {x' : Opd} (ho : o.op = .box t x) (hx : compOpd x = some x') {u : Upd} (hu : ev σ o.dst (.box x') = some u) :
    Does P o a w (fun v w' => Sim w0 S0 M (σ.apply o.dst u) (a.put o.dst v) w') := by
  have hrel := opd_sound h hx
  simp only [ev] at hu
  split at hu
  · next d cs hdst hcs =>
    obtain rfl := Option.some.inj hu

    refine does_new h hdst (hd d hdst) (blk := some w.heap.size) (mu := .pointer (some ⟨w.heap.size, 0, none⟩)) (v := .pointer (some ⟨w.heap.size, 0, none⟩)) (w' := w.alloc (.cells (a.eval x).cells t)) ?_ (kept_alloc _ _) (fun b hb => (Option.some.inj hb).symm) ?_ (.inl ⟨⟨_, rfl⟩, rfl, rfl, _, rfl⟩)
    · simp [execOp, ho, Instr.box, newVar, newRow]
    · exact ⟨_, (a.eval x).cells, t, (0, 0), rfl, rfl, heap_alloc_at _ _, NoFrz.zero _, SVOnes.mono (keeps_alloc h _) Plus.nil _ _ (cellsOf_sound h hrel hcs)⟩
  · simp at hu

/- The parts of a literal. -/
theorem foldl_set : ∀ (vs : List Value) (k off : Nat) (cells : Array Value), off + k + vs.length ≤ cells.size →
    ((vs.zipIdx k).foldl (fun cs (p : Value × Nat) => cs.setIfInBounds (off + p.2) p.1) cells).toList = cells.toList.take (off + k) ++ vs ++ cells.toList.drop (off + k + vs.length)
  | [], k, off, cells, _ => by simp
  | v :: vs, k, off, cells, h => by
    simp only [List.length_cons] at h
    simp only [List.zipIdx_cons, List.foldl_cons]
    rw [foldl_set vs (k + 1) off _ (by simp; omega)]
    have hlt : off + k < cells.toList.length := by simp; omega
    simp only [Array.toList_setIfInBounds, List.length_cons]
    have e1 : (cells.toList.set (off + k) v).take (off + (k + 1)) = cells.toList.take (off + k) ++ [v] := by
      rw [show off + (k + 1) = (off + k) + 1 by omega, List.take_succ_eq_append_getElem (by simpa using hlt), List.take_set_of_le (Nat.le_refl _)]
      simp
    have e2 : (cells.toList.set (off + k) v).drop (off + (k + 1) + vs.length) = cells.toList.drop (off + k + (vs.length + 1)) := by
      rw [List.drop_set_of_lt (by omega)]
      congr 1; omega
    rw [e1, e2]
    simp

theorem fill_sound (h : SimG w0 S0 M σ a w S μ β) {place : Nat → Option (Nat × Nat)} : ∀ {parts : List (Nat × Operand)} {parts' : List (Nat × Nat × Opd)} {cells cells' : List SV} {vs : Array Value},
    compParts place parts = some parts' → SVOnes w S μ σ.objs cells vs.toList → fillSV σ.objs σ cells parts' = some cells' →
    ∃ vs', Instr.fill place vs (parts.map fun (i, x) => (i, a.eval x)) = some vs' ∧ SVOnes w S μ σ.objs cells' vs'.toList
  | [], parts', cells, cells', vs, hc, hr, hf => by
    simp only [compParts, Option.some.injEq] at hc
    subst hc
    simp only [fillSV, Option.some.injEq] at hf
    subst hf
    exact ⟨vs, rfl, hr⟩
  | (i, x) :: r, parts', cells, cells', vs, hc, hr, hf => by
    simp only [compParts] at hc
    split at hc
    · next off s y ys hp hx hys =>
      simp only [Option.some.injEq] at hc
      subst hc
      simp only [fillSV] at hf
      split at hf
      · next cs hcs =>
        split at hf
        · next hcond =>
          obtain ⟨hl, hle⟩ := hcond
          have hcr := cellsOf_sound h (opd_sound h hx) hcs
          have hlen := SVOnes.length hcr
          have hlen' := SVOnes.length hr
          simp only [Array.length_toList] at hlen hlen'
          have hnew : SVOnes w S μ σ.objs (cells.take off ++ cs ++ cells.drop (off + s)) (((a.eval x).cells.toList.zipIdx 0).foldl (fun cs (p : Value × Nat) => cs.setIfInBounds (off + p.2) p.1) vs).toList := by
            rw [foldl_set _ 0 off vs (by simp; omega)]
            simp only [Nat.add_zero, Array.length_toList]
            rw [show off + (a.eval x).cells.size = off + s by omega]
            exact SVOnes.append (SVOnes.append (SVOnes.take off hr) hcr) (SVOnes.drop _ hr)
          obtain ⟨vs', h1, h2⟩ := fill_sound h hys hnew hf
          refine ⟨vs', ?_, h2⟩
          simp only [List.map_cons, Instr.fill, hp]
          rw [if_neg (by simp; omega)]
          rw [← h1]
          congr 1
          rw [← Array.foldl_toList, Array.toList_zipIdx]
        · simp at hf
      · simp at hf
    · simp at hc

theorem run_places {fs : List Field} (hf : fs.all (fun f => (sizeT P f.type).isSome) = true) : ∀ w : World,
    (fs.mapM (m := Sem) fun f => do pure (f.offset, ← sizeOf f.type)).run P w = .ok (fs.map fun f => (f.offset, (sizeT P f.type).getD 0)) w := by
  induction fs with
  | nil => intro w; simp
  | cons f r ih =>
    intro w
    simp only [List.all_cons, Bool.and_eq_true] at hf
    obtain ⟨n, hn⟩ := Option.isSome_iff_exists.1 hf.1
    simp only [List.mapM_cons, Sem.run_bind, run_sizeT hn, Result.andThen_ok, Sem.run_pure, ih hf.2, List.map_cons, hn, Option.getD_some]

theorem snd_build (h : SimG w0 S0 M σ a w S μ β) (hd : ∀ d, o.dst = some d → d < σ.n) {t : TypeId} {parts : Array (Nat × Operand)} {z : List SV} {place : Nat → Option (Nat × Nat)} {parts' : List (Nat × Nat × Opd)} (ho : o.op = .build t parts) (hz : zeroT P t = some z)
    (hpl : (∃ fs, P.underlying t = some (.struct fs) ∧ place = placesF P fs ∧ fs.toList.all (fun f => (sizeT P f.type).isSome) = true) ∨ (∃ n e s, P.underlying t = some (.array n e) ∧ sizeT P e = some s ∧ place = fun i => some (i * s, s)))
    (hp : compParts place parts.toList = some parts') {u : Upd} (hu : ev σ o.dst (.build z parts') = some u) :
    Does P o a w (fun v w' => Sim w0 S0 M (σ.apply o.dst u) (a.put o.dst v) w') := by
  obtain ⟨i, zv, h1, h2, h3⟩ := zeroT_some hz
  simp only [ev] at hu
  split at hu
  · next cells hf =>
    obtain rfl := Option.some.inj hu
    obtain ⟨vs, h4, h5⟩ := fill_sound h hp (constSVs_sound (objs := σ.objs) h3) hf
    refine does_pure0 h hd (v := .agg vs) ?_ (by have := mkAgg_sound h5; simpa using this)
    have hmap : (parts.map fun (p : Nat × Operand) => (p.1, a.eval p.2)).toList = parts.toList.map fun (p : Nat × Operand) => (p.1, a.eval p.2) := by simp
    rcases hpl with ⟨fs, ht, rfl, hall⟩ | ⟨n, e, s, ht, hs, rfl⟩
    · have hplaces : (fs.mapM (m := Sem) fun f => do pure (f.offset, ← sizeOf f.type)).run P w = .ok (fs.map fun f => (f.offset, (sizeT P f.type).getD 0)) w := by
        rw [Array.mapM_eq_mapM_toList]
        simp only [Sem.run_map, run_places hall, Result.andThen_ok]
        congr 1
        apply Array.toList_inj.1
        simp
      have hpe : (fun i => (fs.map fun f => (f.offset, (sizeT P f.type).getD 0))[i]?) = placesF P fs := by
        funext i
        simp only [Array.getElem?_map, placesF]
        cases hfi : fs[i]? with
        | none => rfl
        | some f =>
          have hmem : f ∈ fs.toList := List.mem_of_getElem? (by simpa using hfi)
          have := List.all_eq_true.1 hall f hmem
          obtain ⟨n, hn⟩ := Option.isSome_iff_exists.1 this
          simp [hn]
      simp only [execOp, ho, Instr.build, Sem.run_bind, run_zeroValue h1 h2, Result.andThen_ok, run_underlying ht, hplaces, hpe, hmap]
      rw [h4]
      simp
    · simp only [execOp, ho, Instr.build, Sem.run_bind, run_zeroValue h1 h2, Result.andThen_ok, run_underlying ht, run_sizeT hs, hmap]
      rw [h4]
      simp
  · simp at hu

theorem toList_range_map (zero : Array Value) (s : Nat) (hs : zero.size = s) (hpos : 0 < s) : ∀ n, ((Array.range (n * s)).map (fun i => zero[i % zero.size]!)).toList = repeatL zero.toList n := by
  intro n
  induction n with
  | zero => simp [repeatL]
  | succ n ih =>
    have ih' : (List.range (n * s)).map (fun i => zero[i % zero.size]!) = repeatL zero.toList n := by simpa using ih
    have : (List.range ((n + 1) * s)).map (fun i => zero[i % zero.size]!) = repeatL zero.toList (n + 1) := by
      rw [show (n + 1) * s = s + n * s by rw [Nat.add_mul]; omega, List.range_add, List.map_append, List.map_map]
      simp only [repeatL]
      congr 1
      · apply List.ext_getElem
        · simp [hs]
        · intro i h1 h2
          simp only [List.length_map, List.length_range] at h1
          simp only [List.getElem_map, List.getElem_range, Array.getElem_toList]
          rw [Nat.mod_eq_of_lt (by omega)]
          rw [getElem!_pos zero i (by omega)]
      · rw [← ih']
        apply List.map_congr_left
        intro i _
        simp only [Function.comp]
        rw [← hs, Nat.add_mod_left]
    simpa using this
theorem SVOnes.repeat {objs : List (Nat × Ob)} {z : List SV} {vs : List Value} (h : SVOnes w S μ objs z vs) : ∀ n, SVOnes w S μ objs (repeatL z n) (repeatL vs n)
  | 0 => rfl
  | n + 1 => SVOnes.append h (SVOnes.repeat h n)
theorem chunks_flatten {α : Type} {s : Nat} : ∀ {n : Nat} {l : List α}, l.length = n * s → (chunks s n l).flatten = l ∧ (chunks s n l).length = n ∧ ∀ r ∈ chunks s n l, r.length = s
  | 0, l, h => by
    have : l = [] := List.length_eq_zero_iff.1 (by simpa using h)
    subst this
    simp [chunks]
  | n + 1, l, h => by
    rw [Nat.add_mul] at h
    obtain ⟨h1, h2, h3⟩ := chunks_flatten (s := s) (n := n) (l := l.drop s) (by rw [List.length_drop]; omega)
    refine ⟨?_, by simp [chunks, h2], ?_⟩
    · simp only [chunks, List.flatten_cons, h1, List.take_append_drop]
    · intro r hr
      simp only [chunks, List.mem_cons] at hr
      rcases hr with rfl | hr
      · rw [List.length_take]; omega
      · exact h3 r hr
theorem repeatL_length {α : Type} (l : List α) : ∀ n, (repeatL l n).length = n * l.length
  | 0 => by simp [repeatL]
  | n + 1 => by simp only [repeatL, List.length_append, repeatL_length l n, Nat.add_mul]; omega

theorem fillSV_length {objs : List (Nat × Ob)} : ∀ {parts : List (Nat × Nat × Opd)} {cells cells' : List SV}, fillSV objs σ cells parts = some cells' → cells'.length = cells.length
  | [], cells, cells', h => by simp only [fillSV, Option.some.injEq] at h; rw [h]
  | (off, s, x) :: r, cells, cells', h => by
    simp only [fillSV] at h
    split at h
    · next cs hcs =>
      split at h
      · next hc =>
        have := fillSV_length h
        rw [this]
        simp only [List.length_append, List.length_take, List.length_drop]
        omega
      · simp at h
    · simp at h

theorem snd_buildSlice (h : SimG w0 S0 M σ a w S μ β) (hd : ∀ d, o.dst = some d → d < σ.n) {t e : TypeId} {n s : Nat} {parts : Array (Nat × Operand)} {z : List SV} {parts' : List (Nat × Nat × Opd)} (ho : o.op = .buildSlice t n parts) (ht : P.underlying t = some (.slice e))
    (hs : sizeT P e = some s) (hz : zeroT P e = some z) (hok : 0 < s ∧ z.length = s ∧ n * s ≤ 16777216) (hp : compParts (fun i => some (i * s, s)) parts.toList = some parts') {u : Upd} (hu : ev σ o.dst (.buildSlice s n z parts') = some u) :
    Does P o a w (fun v w' => Sim w0 S0 M (σ.apply o.dst u) (a.put o.dst v) w') := by
  obtain ⟨i, zv, h1, h2, h3⟩ := zeroT_some hz
  obtain ⟨hpos, hzl, hbig⟩ := hok
  simp only [ev] at hu
  split at hu
  · next d cells hdst hf =>
    split at hu
    · next vs fz hiv =>
      obtain rfl := Option.some.inj hu

      have hzr := constSVs_sound (w := w) (S := S) (μ := μ) (objs := σ.objs) h3
      have hzs : zv.cells.size = s := by have := SVOnes.length hzr; simp at this; omega
      have hinit : SVOnes w S μ σ.objs (repeatL z n) ((Array.range (n * s)).map (fun i => zv.cells[i % zv.cells.size]!)).toList := by
        rw [toList_range_map zv.cells s hzs hpos]
        exact SVOnes.repeat hzr n
      obtain ⟨vals, h4, h5⟩ := fill_sound h hp hinit hf
      have hrep := toIVs1_soundOnes h hiv (fun _ x => x) h5
      have hlen : vs.length = n * s := by
        have e1 := RepOnes.length hrep
        have e2 := SVOnes.length h5
        have e3 := fillSV_length hf
        rw [repeatL_length] at e3
        rw [hzl] at e3
        omega
      have hvl : vals.size = n * s := by have e1 := RepOnes.length hrep; simp at e1; omega
      obtain ⟨c1, c2, c3⟩ := chunks_flatten hlen
      refine does_new h hdst (hd d hdst) (blk := some w.heap.size) (mu := .slice (some ⟨w.heap.size, 0, none⟩) n n) (v := .slice (some ⟨w.heap.size, 0, none⟩) n n) (w' := w.alloc (.cells vals e)) ?_ (kept_alloc _ _) (fun b hb => (Option.some.inj hb).symm) ?_ (.inr ⟨⟨_, _, rfl⟩, rfl, rfl⟩)
      · have hmap : (parts.map fun (p : Nat × Operand) => (p.1, a.eval p.2)).toList = parts.toList.map fun (p : Nat × Operand) => (p.1, a.eval p.2) := by simp
        simp only [execOp, ho, Instr.buildSlice, Sem.run_bind, run_underlying ht, Result.andThen_ok, run_sizeT hs]
        rw [if_neg (by omega)]
        by_cases hnz : n * s = 0
        · rw [if_pos hnz]
          simp only [Sem.run_bind, Result.andThen_ok, Sem.run_pure, hmap]
          rw [hnz] at h4 ⊢
          rw [show (Array.range 0).map (fun i => (#[] : Array Value)[i % (#[] : Array Value).size]!) = (Array.range 0).map (fun i => zv.cells[i % zv.cells.size]!) from by simp, h4]
          simp [newRow]
        · rw [if_neg hnz]
          simp only [Sem.run_bind, run_zeroValue h1 h2, Result.andThen_ok, Sem.run_pure, hmap]
          rw [h4]
          simp [newRow]
      · refine .inr ⟨_, n, vals, e, (0, 0), rfl, ?_, heap_alloc_at _ _, NoFrz.zero _, hvl, ?_, c3, ?_⟩
        · rw [c2]
        · rw [c2]; exact Nat.le_refl _
        · rw [c1, c2, List.take_of_length_le (by simp; omega)]
          refine RepOnes.mono ?_ (fun _ _ x => x) _ _ hrep
          intro b off hS
          refine cell_of_heap (heap_alloc_lt ?_) off
          exact (h.freeze fz).stab b off hS
    · simp at hu
  · simp at hu

theorem snd_mkSlice (h : SimG w0 S0 M σ a w S μ β) (hd : ∀ d, o.dst = some d → d < σ.n) {t e : TypeId} {i : TypeInfo} {x y : Operand} {x' y' : Opd} {z : List SV} (ho : o.op = .makeSlice t x y) (ht : P.underlying t = some (.slice e))
    (hi : P.info? e = some i) (hz : zeroT P e = some z) (hok : 0 < i.size ∧ z.length = i.size) (hx : compOpd x = some x') (hy : compOpd y = some y') {u : Upd} (hu : ev σ o.dst (.mkSlice i.size i.bytes z x' y') = some u) (hs : u.side) :
    Does P o a w (fun v w' => Sim w0 S0 M (σ.apply o.dst u) (a.put o.dst v) w') := by
  obtain ⟨i', zv, h1, h2, h3⟩ := zeroT_some hz
  obtain rfl : i' = i := by rw [hi] at h1; exact (Option.some.inj h1).symm
  obtain ⟨hpos, hzl⟩ := hok
  have hrelx := opd_sound h hx
  have hrely := opd_sound h hy
  simp only [ev] at hu
  split at hu
  · next d l c zs hdst hl hc hav =>
    obtain rfl := Option.some.inj hu
    obtain ⟨h0, hlc, hby, hmax⟩ : 0 ≤ l ∧ l ≤ c ∧ c * i'.bytes ≤ 281474976710656 ∧ c ≤ 9223372036854775807 := hs

    rw [hl] at hrelx
    rw [hc] at hrely
    have hv1 : a.eval x = .int .i64 l := hrelx
    have hv2 : a.eval y = .int .i64 c := hrely
    have hzr := constSVs_sound (w := w) (S := S) (μ := μ) (objs := σ.objs) h3
    have hzs : zv.cells.size = i'.size := by have := SVOnes.length hzr; simp at this; omega
    have hwl : IntKind.i64.wrap l = l := IntWalk.i64_in l (by omega)
    have hwc : IntKind.i64.wrap c = c := IntWalk.i64_in c (by omega)
    have hzz := allVal_spec hav
    subst hzz
    have hrz : RepOnes w S zs zv.cells.toList := SVOnes.toRep hzr
    let row : Array Value := (Array.range (c.toNat * i'.size)).map (fun j => zv.cells[j % zv.cells.size]!)
    have hrow : row.toList = repeatL zv.cells.toList c.toNat := toList_range_map zv.cells i'.size hzs hpos c.toNat
    have hrsz : row.size = c.toNat * i'.size := by simp [row]
    refine does_new (fz := []) h hdst (hd d hdst) (blk := some w.heap.size) (mu := .slice (some ⟨w.heap.size, 0, none⟩) l.toNat c.toNat) (v := .slice (some ⟨w.heap.size, 0, none⟩) l.toNat c.toNat) (w' := w.alloc (.cells row e)) ?_ (kept_alloc _ _) (fun b hb => (Option.some.inj hb).symm) ?_ (.inr ⟨⟨_, _, rfl⟩, rfl, rfl⟩)
    · simp only [execOp, ho, Instr.makeSlice, Sem.run_bind, run_underlying ht, Result.andThen_ok, hv1, hv2, asInt, asIntOf, Sem.run_pure, run_ti hi, hwl, hwc]
      have t1 : (decide (c < 0) || decide ((i'.bytes : Int) * c > 2 ^ 48)) = false := by
        rw [Int.mul_comm]
        simp only [Bool.or_eq_false_iff, decide_eq_false_iff_not]
        constructor
        · omega
        · have : (2 : Int) ^ 48 = 281474976710656 := by decide
          omega
      simp only [t1, Bool.false_or]
      rw [if_neg (by simp; omega)]
      simp only [Sem.run_bind, run_askRoom, Result.andThen_ok, run_sizeI hi]
      by_cases hz0 : c.toNat * i'.size = 0
      · rw [if_pos hz0]
        simp only [Sem.run_pure, Result.andThen_ok, newRow, Sem.run_bind, run_newObj]
        have : row = #[] := by apply Array.eq_empty_of_size_eq_zero; omega
        rw [this, hz0]
        have hr0 : ∀ f : Nat → Value, (Array.range 0).map f = #[] := fun f => by apply Array.toList_inj.1; simp
        rw [hr0]
        rfl
      · rw [if_neg hz0]
        simp only [Sem.run_bind, run_zeroValue h1 h2, Result.andThen_ok, Sem.run_pure, newRow, run_newObj]
        rfl
    · have hlen2 : (List.replicate l.toNat zs).length = l.toNat := by simp
      refine .inr ⟨_, c.toNat, row, e, (0, 0), rfl, by rw [hlen2], heap_alloc_at _ _, NoFrz.zero _, hrsz, by rw [hlen2]; omega, ?_, ?_⟩
      · intro r hr
        have := List.eq_of_mem_replicate hr
        subst this
        simpa using hzl
      · rw [hlen2, hrow]
        have hflat : ∀ n, (List.replicate n zs).flatten = repeatL zs n := by
          intro n
          induction n with
          | zero => rfl
          | succ n ih => simp [List.replicate_succ, repeatL, ih]
        have htake : ∀ (n m : Nat), n ≤ m → (repeatL zv.cells.toList m).take (n * i'.size) = repeatL zv.cells.toList n := by
          intro n
          induction n with
          | zero => intro m _; simp [repeatL]
          | succ n ih =>
            intro m hm
            cases m with
            | zero => omega
            | succ m =>
              simp only [repeatL]
              rw [show (n + 1) * i'.size = zv.cells.toList.length + n * i'.size by simp [hzs, Nat.add_mul]; omega, List.take_length_add_append, ih m (by omega)]
        rw [hflat, htake _ _ (by omega)]
        have hrepR : ∀ n, RepOnes w S (repeatL zs n) (repeatL zv.cells.toList n) := by
          intro n
          induction n with
          | zero => rfl
          | succ n ih => exact RepOnes.append hrz ih
        exact RepOnes.mono (keeps_alloc h _) Plus.nil _ _ (hrepR _)
  · simp at hu

end
end Go.Vs
