/- Value semantics, part 12: every operation that calls nothing holds what the evaluator says. No conditions. -/
import Derived.Test.YtjfleklkloohgaaVs11b
set_option linter.unusedVariables false
set_option linter.unusedSimpArgs false
namespace Go.Vs

section
variable {P : Program} {w0 w : World} {S0 S : Stab} {M : Ctx} {σ : St} {a : Act} {μ : Nat → Value} {β : Nat → Option Nat} {o : Oper}

theorem ev_binop (h : SimG w0 S0 M σ a w S μ β) (hd : ∀ d, o.dst = some d → d < σ.n) {op : BinOp} {t t' : TypeId} {x y : Operand} {x' y' : Opd} (ho : o.op = .binOp op t x y t') (hx : compOpd x = some x') (hy : compOpd y = some y')
    {u : Upd} (hu : ev σ o.dst (.bin op x' y') = some u) (hs : u.side) : Does P o a w (fun v w' => Sim w0 S0 M (σ.apply o.dst u) (a.put o.dst v) w') := by
  simp only [ev] at hu
  split at hu
  · next k m k' n h1 h2 =>
    split at hu
    · next hk =>
      subst hk
      exact snd_binI h hd ho hx hy h1 h2 hu hs
    · simp at hu
  · next m n h1 h2 => exact snd_binS h hd ho hx hy h1 h2 hu hs
  · simp at hu

theorem ev_eqNi (h : SimG w0 S0 M σ a w S μ β) (hd : ∀ d, o.dst = some d → d < σ.n) {op : BinOp} {t t' : TypeId} {x : Operand} {x' : Opd} (ho : o.op = .binOp op t x (.const .nilIface) t') (hop : op = .eql ∨ op = .neq) (hx : compOpd x = some x')
    {ms : Array (String × TypeId)} (ht : P.underlying t = some (.interface ms)) {u : Upd} (hu : ev σ o.dst (.eqN (op == .neq) x') = some u) :
    Does P o a w (fun v w' => Sim w0 S0 M (σ.apply o.dst u) (a.put o.dst v) w') := by
  have hrel := opd_sound h hx
  simp only [ev] at hu
  split at hu
  · next heq =>
    rw [heq] at hrel
    obtain rfl := Option.some.inj hu
    have := snd_eqNi h hd ho hop ht (b := true) (.inr ⟨hrel, rfl⟩)
    simpa using this
  · next t1 v1 heq =>
    rw [heq] at hrel
    obtain rfl := Option.some.inj hu
    obtain ⟨v2, h2, _⟩ := hrel
    have := snd_eqNi h hd ho hop ht (b := false) (.inl ⟨t1, v2, h2, rfl⟩)
    simpa using this
  · next t1 v1 heq =>
    rw [heq] at hrel
    obtain rfl := Option.some.inj hu
    obtain ⟨v2, h2, _⟩ := hrel
    have := snd_eqNi h hd ho hop ht (b := false) (.inl ⟨t1, v2, h2, rfl⟩)
    simpa using this
  · simp at hu
theorem ev_eqNp (h : SimG w0 S0 M σ a w S μ β) (hd : ∀ d, o.dst = some d → d < σ.n) {op : BinOp} {t t' : TypeId} {x : Operand} {x' : Opd} (ho : o.op = .binOp op t x (.const (.pointer none)) t') (hop : op = .eql ∨ op = .neq) (hx : compOpd x = some x')
    {e : TypeId} (ht : P.underlying t = some (.pointer e)) {u : Upd} (hu : ev σ o.dst (.eqP (op == .neq) x') = some u) :
    Does P o a w (fun v w' => Sim w0 S0 M (σ.apply o.dst u) (a.put o.dst v) w') := by
  have hrel := opd_sound h hx
  simp only [ev] at hu
  split at hu
  · next heq =>
    rw [heq] at hrel
    obtain rfl := Option.some.inj hu
    have := snd_eqNp h hd ho hop ht (b := true) (.inr ⟨hrel, rfl⟩)
    simpa using this
  · next cs heq =>
    rw [heq] at hrel
    obtain rfl := Option.some.inj hu
    obtain ⟨b, off, h2, _⟩ := hrel
    have := snd_eqNp h hd ho hop ht (b := false) (.inl ⟨_, h2, rfl⟩)
    simpa using this
  · next id off heq =>
    rw [heq] at hrel
    split at hu
    · next cells hl =>
      obtain rfl := Option.some.inj hu
      obtain ⟨b, _, h2⟩ := hrel _ hl
      have := snd_eqNp h hd ho hop ht (b := false) (.inl ⟨_, h2, rfl⟩)
      simpa using this
    · simp at hu
  · simp at hu

theorem ev_eqNs (h : SimG w0 S0 M σ a w S μ β) (hd : ∀ d, o.dst = some d → d < σ.n) {op : BinOp} {t t' : TypeId} {x : Operand} {x' : Opd} (ho : o.op = .binOp op t x (.const (.slice none 0 0)) t') (hop : op = .eql ∨ op = .neq) (hx : compOpd x = some x')
    {e : TypeId} (ht : P.underlying t = some (.slice e)) {u : Upd} (hu : ev σ o.dst (.eqS (op == .neq) x') = some u) :
    Does P o a w (fun v w' => Sim w0 S0 M (σ.apply o.dst u) (a.put o.dst v) w') := by
  have hrel := opd_sound h hx
  simp only [ev] at hu
  split at hu
  · next rd heq =>
    obtain rfl := Option.some.inj hu
    obtain ⟨p, c, h1, _⟩ := rowsOf_sound h heq hrel
    exact (snd_eqNs h hd ho hop ht h1).2
  · next r rs rd heq =>
    obtain rfl := Option.some.inj hu
    obtain ⟨p, c, h1, _, h2⟩ := rowsOf_sound h heq hrel
    obtain ⟨blk, off, s, rfl, _⟩ := h2 (by simp)
    have := (snd_eqNs h hd ho hop ht h1).1
    simpa using this
  · simp at hu

theorem ev_eqA (h : SimG w0 S0 M σ a w S μ β) (hd : ∀ d, o.dst = some d → d < σ.n) {op : BinOp} {t t' : TypeId} {x y : Operand} {x' y' : Opd} (ho : o.op = .binOp op t x y t') (hop : op = .eql ∨ op = .neq) (hx : compOpd x = some x') (hy : compOpd y = some y')
    {fs : Array Field} (ht : P.underlying t = some (.struct fs)) (hg : P.eqGuardType P.depth t = false) {ks : List LK} (hk : leaves P 10 t = some ks) {u : Upd} (hu : ev σ o.dst (.eqA (op == .neq) ks x' y') = some u) :
    Does P o a w (fun v w' => Sim w0 S0 M (σ.apply o.dst u) (a.put o.dst v) w') := by
  have hrel := opd_sound h hx
  have hrel2 := opd_sound h hy
  simp only [ev] at hu
  split at hu
  · next xs ys h1 h2 =>
    rw [h1] at hrel
    rw [h2] at hrel2
    split at hu
    · next b hb =>
      obtain rfl := Option.some.inj hu
      obtain ⟨us, hu1, hu2⟩ := hrel
      obtain ⟨vs, hv1, hv2⟩ := hrel2
      cases hst : P.stoodInHeld t with
      | true => simp [leaves, ht, hst] at hk
      | false =>
        simp only [leaves, ht, hst, Bool.false_eq_true, if_false] at hk
        split at hk
        · next k1 hk1 =>
          split at hk
          · obtain rfl := Option.some.inj hk
            have hf : P.underlying t = some (.struct (P.fieldsOf t)) := by simp [Program.fieldsOf, ht]
            have hfs : P.fieldsOf t = fs := by simp [Program.fieldsOf, ht]
            have he : (Op.equalIn 10000 t (.agg us) (.agg vs)).run P w = .ok b w := by
              have e1 := run_equalIn_struct (P := P) w 9999 t us vs hf hst
              rw [hfs] at e1
              exact e1.trans (eqFields_run (d := 9) (leaves_sound 9) fs.toList 0 k1 hk1 9990 xs ys us vs b hu2 hv2 (by simpa using hb))
            exact snd_eqG h hd ho hop hu1 hv1 (run_eqGuard_agg w op t x y us vs hg) he rfl rfl
          · simp at hk
        · simp at hk
    · simp at hu
  · simp at hu

theorem ev_eq (h : SimG w0 S0 M σ a w S μ β) (hd : ∀ d, o.dst = some d → d < σ.n) {op : BinOp} {t t' : TypeId} {x y : Operand} {x' y' : Opd} (ho : o.op = .binOp op t x y t') (hop : op = .eql ∨ op = .neq) (hx : compOpd x = some x') (hy : compOpd y = some y') {vo : VOp} (hc : compEq P (op == .neq) op t y x' y' = some vo)
    {u : Upd} (hu : ev σ o.dst vo = some u) (hs : u.side) : Does P o a w (fun v w' => Sim w0 S0 M (σ.apply o.dst u) (a.put o.dst v) w') := by
  unfold compEq at hc
  split at hc
  · next ht =>
    obtain rfl := Option.some.inj hc
    simp only [ev] at hu
    split at hu
    · next m n h1 h2 =>
      obtain rfl := Option.some.inj hu
      exact snd_eqB h hd ho hop ht hx hy h1 h2
    · simp at hu
  · obtain rfl := Option.some.inj hc
    exact ev_binop h hd ho hx hy hu hs
  · obtain rfl := Option.some.inj hc
    exact ev_binop h hd ho hx hy hu hs
  · next ms ht =>
    split at hc
    · next hn =>
      obtain rfl := Option.some.inj hc
      obtain rfl := nilI_eq hn
      exact ev_eqNi h hd ho hop hx ht hu
    · simp at hc
  · next e ht =>
    split at hc
    · next hn =>
      obtain rfl := Option.some.inj hc
      obtain rfl := nilP_eq hn
      exact ev_eqNp h hd ho hop hx ht hu
    · simp at hc
  · next e ht =>
    split at hc
    · next hn =>
      obtain rfl := Option.some.inj hc
      obtain rfl := nilS_eq hn
      exact ev_eqNs h hd ho hop hx ht hu
    · simp at hc
  · next fs ht =>
    split at hc
    · simp at hc
    · next hg =>
      simp only [Option.map_eq_some_iff] at hc
      obtain ⟨ks, hk, rfl⟩ := hc
      exact ev_eqA h hd ho hop hx hy ht (by simpa using hg) hk hu
  · simp at hc

theorem ev_bin (h : SimG w0 S0 M σ a w S μ β) (hd : ∀ d, o.dst = some d → d < σ.n) {op : BinOp} {t t' : TypeId} {x y : Operand} (ho : o.op = .binOp op t x y t') {vo : VOp} (hc : compBin P op t x y = some vo)
    {u : Upd} (hu : ev σ o.dst vo = some u) (hs : u.side) : Does P o a w (fun v w' => Sim w0 S0 M (σ.apply o.dst u) (a.put o.dst v) w') := by
  unfold compBin at hc
  split at hc
  · next x' y' hx hy =>
    split at hc
    · exact ev_eq h hd ho (.inl rfl) hx hy hc hu hs
    · exact ev_eq h hd ho (.inr rfl) hx hy hc hu hs
    · obtain rfl := Option.some.inj hc
      exact ev_binop h hd ho hx hy hu hs
  · simp at hc

theorem ev_call (h : SimG w0 S0 M σ a w S μ β) (hd : ∀ d, o.dst = some d → d < σ.n) {c : Call} (ho : o.op = .call c) {vo : VOp} (hc : compCall P c = some vo)
    {u : Upd} (hu : ev σ o.dst vo = some u) (hs : u.side) : Does P o a w (fun v w' => Sim w0 S0 M (σ.apply o.dst u) (a.put o.dst v) w') := by
  unfold compCall at hc
  split at hc
  · next f hf =>
    split at hc
    · split at hc
      · simp at hc
      · simp only [Option.map_eq_some_iff] at hc
        obtain ⟨y, hy, rfl⟩ := hc
        simp [ev] at hu
    · simp at hc
  · split at hc
    · obtain rfl := Option.some.inj hc
      simp [ev] at hu
    · simp at hc
  · next hb =>
    split at hc
    · next t x hat hal =>
      split at hc
      · next u' ht hx =>
        obtain rfl := Option.some.inj hc
        exact (snd_len h hd ho hb hat hal ht hx).1 rfl u hu
      · next e u' ht hx =>
        obtain rfl := Option.some.inj hc
        exact (snd_len h hd ho hb hat hal ht hx).2.1 e rfl u hu
      · next n e u' ht hx =>
        obtain rfl := Option.some.inj hc
        exact (snd_len h hd ho hb hat hal ht hx).2.2 n e rfl u hu
      · simp at hc
    · simp at hc
  · next hb =>
    split at hc
    · next x y hal =>
      split at hc
      · next x' y' hx hy =>
        obtain rfl := Option.some.inj hc
        exact (snd_max h hd ho hal hx hy).1 hb u hu
      · simp at hc
    · simp at hc
  · next hb =>
    split at hc
    · next x y hal =>
      split at hc
      · next x' y' hx hy =>
        obtain rfl := Option.some.inj hc
        exact (snd_max h hd ho hal hx hy).2 hb u hu
      · simp at hc
    · simp at hc
  · next hb =>
    split at hc
    · next t t' x y hat hat' hal =>
      split at hc
      · next e e' x' y' ht ht' hx hy =>
        split at hc
        · next i hi =>
          split at hc
          · next hok =>
            obtain rfl := Option.some.inj hc
            exact snd_append h hd ho hb hat hat' hal ht ht' hi hok hx hy hu hs
          · simp at hc
        · simp at hc
      · simp at hc
    · simp at hc
  · next hb =>
    split at hc
    · next t x hat hal =>
      split at hc
      · next e x' ht hx =>
        simp only [Option.map_eq_some_iff] at hc
        obtain ⟨zero, hz, rfl⟩ := hc
        exact snd_clear h hd ho hb hat hal ht hx hz hu hs
      · simp at hc
    · simp at hc
  · next hb =>
    split at hc
    · next t t' x y hat hat' hal =>
      split at hc
      · next e e' x' y' ht ht' hx hy =>
        simp only [Option.map_eq_some_iff] at hc
        obtain ⟨s, hz, rfl⟩ := hc
        exact snd_copy h hd ho hb hat hal ht hx hy hz hu hs
      · simp at hc
    · simp at hc
  · simp at hc

/-- Every operation that calls nothing. -/
theorem ev_sound (h : SimG w0 S0 M σ a w S μ β) (hd : ∀ d, o.dst = some d → d < σ.n) {vo : VOp} (hc : compOp P o.op = some vo) {u : Upd} (hu : ev σ o.dst vo = some u) (hs : u.side) :
    Does P o a w (fun v w' => Sim w0 S0 M (σ.apply o.dst u) (a.put o.dst v) w') := by
  cases ho : o.op with
  | move x =>
    simp only [ho, compOp, Option.map_eq_some_iff] at hc
    obtain ⟨y, hy, rfl⟩ := hc
    simp only [ev, Option.some.injEq] at hu
    subst hu
    exact snd_move h hd (.inl ho) hy
  | assign x =>
    simp only [ho, compOp, Option.map_eq_some_iff] at hc
    obtain ⟨y, hy, rfl⟩ := hc
    simp only [ev, Option.some.injEq] at hu
    subst hu
    exact snd_move h hd (.inr ho) hy
  | pick c x y =>
    simp only [ho, compOp] at hc
    split at hc
    · next c' x' y' h1 h2 h3 =>
      obtain rfl := Option.some.inj hc
      simp only [ev] at hu
      split at hu
      · next t heq =>
        obtain rfl := Option.some.inj hu
        exact snd_pick h hd ho h1 h2 h3 heq
      · simp at hu
    · simp at hc
  | alloc t =>
    simp only [ho, compOp, Option.map_eq_some_iff] at hc
    obtain ⟨z, hz, rfl⟩ := hc
    exact snd_alloc h hd ho hz hu
  | box t x =>
    simp only [ho, compOp, Option.map_eq_some_iff] at hc
    obtain ⟨y, hy, rfl⟩ := hc
    exact snd_box h hd ho hy hu
  | build t parts =>
    simp only [ho, compOp] at hc
    split at hc
    · next fs z ht hz =>
      split at hc
      · next hall =>
        simp only [Option.map_eq_some_iff] at hc
        obtain ⟨p, hp, rfl⟩ := hc
        exact snd_build h hd ho hz (.inl ⟨fs, ht, rfl, hall⟩) hp hu
      · simp at hc
    · next n e z ht hz =>
      split at hc
      · next s hs' =>
        simp only [Option.map_eq_some_iff] at hc
        obtain ⟨p, hp, rfl⟩ := hc
        exact snd_build h hd ho hz (.inr ⟨n, e, s, ht, hs', rfl⟩) hp hu
      · simp at hc
    · simp at hc
  | buildSlice t n parts =>
    simp only [ho, compOp] at hc
    split at hc
    · next e ht =>
      split at hc
      · next s z hs' hz =>
        split at hc
        · next hok =>
          simp only [Option.map_eq_some_iff] at hc
          obtain ⟨p, hp, rfl⟩ := hc
          exact snd_buildSlice h hd ho ht hs' hz hok hp hu
        · simp at hc
      · simp at hc
    · simp at hc
  | load t x =>
    simp only [ho, compOp] at hc
    split at hc
    · next g x' hg hx =>
      obtain rfl := Option.some.inj hc
      exact snd_load h hd ho hx hg hu hs
    · simp at hc
  | store t x y =>
    simp only [ho, compOp] at hc
    split at hc
    · next n x' y' hn hx hy =>
      obtain rfl := Option.some.inj hc
      exact snd_store h hd ho hn hx hy hu hs
    · simp at hc
  | nilCheck x =>
    simp only [ho, compOp, Option.map_eq_some_iff] at hc
    obtain ⟨y, hy, rfl⟩ := hc
    exact snd_nilCheck h hd ho hy hu
  | binOp op t x y t' =>
    simp only [ho, compOp] at hc
    exact ev_bin h hd ho hc hu hs
  | unOp op t x =>
    simp only [ho, compOp, Option.map_eq_some_iff] at hc
    obtain ⟨y, hy, rfl⟩ := hc
    simp only [ev] at hu
    split at hu
    · next k n heq =>
      obtain rfl := Option.some.inj hu
      exact (snd_un h hd hy).1 ho heq
    · next b heq =>
      obtain rfl := Option.some.inj hu
      exact (snd_un h hd hy).2 ho heq
    · simp at hu
  | convert s t x =>
    simp only [ho, compOp] at hc
    split at hc
    · next k1 k2 y h1 h2 hy =>
      obtain rfl := Option.some.inj hc
      simp only [ev] at hu
      split at hu
      · next k n heq =>
        obtain rfl := Option.some.inj hu
        exact (snd_conv h hd ho hy).1 h1 h2 heq
      · simp at hu
    · next y h1 h2 hy =>
      obtain rfl := Option.some.inj hc
      simp only [ev] at hu
      split at hu
      · next n heq =>
        obtain rfl := Option.some.inj hu
        exact (snd_conv h hd ho hy).2 h1 h2 heq
      · simp at hu
    · simp at hc
  | makeInterface t x =>
    simp only [ho, compOp] at hc
    split at hc
    · simp at hc
    · next d hni ht =>
      simp only [Option.map_eq_some_iff] at hc
      obtain ⟨y, hy, rfl⟩ := hc
      exact snd_mkIface h hd ho ht (fun ms e => hni ms e) hy hu
    · simp at hc
  | makeFunc fn first caps =>
    simp only [ho, compOp, compFn] at hc
    split at hc
    · next f =>
      split at hc
      · next hf =>
        simp only [Option.map_eq_some_iff] at hc
        obtain ⟨y, hy, rfl⟩ := hc
        obtain rfl : first = #[] := Array.eq_empty_of_size_eq_zero hf
        exact snd_mkFunc h hd ho hy hu
      · simp at hc
    · simp at hc
  | makeSlice t l c =>
    simp only [ho, compOp] at hc
    split at hc
    · next e ht =>
      split at hc
      · next i z x' y' hi hz hx hy =>
        split at hc
        · next hok =>
          obtain rfl := Option.some.inj hc
          exact snd_mkSlice h hd ho ht hi hz hok hx hy hu hs
        · simp at hc
      · simp at hc
    · simp at hc
  | slice t x lo hi mx =>
    simp only [ho, compOp] at hc
    split at hc
    · next x' l' h' ht hx hl hh hm =>
      obtain rfl := Option.some.inj hc
      have hmx : mx = none := by
        cases mx with
        | none => rfl
        | some y => simp [compOpt] at hm
      subst hmx
      exact snd_subS h hd ho ht hx hl hh hu hs
    · next e x' l' h' m' ht hx hl hh hm =>
      simp only [Option.map_eq_some_iff] at hc
      obtain ⟨s, hsz, rfl⟩ := hc
      exact snd_subV h hd ho ht hsz hx hl hh hm hu hs
    · simp at hc
  | fieldAddr t x f =>
    simp only [ho, compOp] at hc
    split at hc
    · next fs ht =>
      split at hc
      · next g x' hg hx =>
        split at hc
        · next n hn =>
          split at hc
          · simp at hc
          · next hn0 =>
            obtain rfl := Option.some.inj hc
            exact snd_fieldAddr h hd ho ht hg hn hn0 hx hu
        · simp at hc
      · simp at hc
    · simp at hc
  | field t x f =>
    simp only [ho, compOp] at hc
    split at hc
    · next fs ht =>
      split at hc
      · next fg x' hf hx =>
        simp only [Option.map_eq_some_iff] at hc
        obtain ⟨g, hg, rfl⟩ := hc
        exact snd_field h hd ho ht hf hg hx hu
      · simp at hc
    · simp at hc
  | indexAddr t x i =>
    simp only [ho, compOp] at hc
    split at hc
    · next e ht =>
      split at hc
      · next s x' i' hsz hx hi =>
        obtain rfl := Option.some.inj hc
        exact snd_indexAddr h hd ho ht hsz hx hi hu hs
      · simp at hc
    · next n e ht =>
      split at hc
      · next s x' i' hsz hx hi =>
        obtain rfl := Option.some.inj hc
        exact snd_indexArr h hd ho ht hsz hx hi hu hs
      · simp at hc
    · simp at hc
  | index t x i =>
    simp only [ho, compOp] at hc
    split at hc
    · next ht =>
      split at hc
      · next x' i' hx hi =>
        obtain rfl := Option.some.inj hc
        exact snd_indexS h hd ho ht hx hi hu
      · simp at hc
    · next n e ht =>
      split at hc
      · next g s x' i' hg hsz hx hi =>
        obtain rfl := Option.some.inj hc
        exact snd_indexA h hd ho ht hg hsz hx hi hu
      · simp at hc
    · simp at hc
  | extract x i =>
    simp only [ho, compOp, Option.map_eq_some_iff] at hc
    obtain ⟨y, hy, rfl⟩ := hc
    exact snd_extract h hd ho hy hu
  | call c =>
    simp only [ho, compOp] at hc
    exact ev_call h hd ho hc hu hs
  | _ => simp [ho, compOp] at hc

end
end Go.Vs
