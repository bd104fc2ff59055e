/- Value semantics, part 6: the operations that touch no memory hold what the evaluator says. No conditions. -/
import Derived.Test.YtjfleklkloohgaaVs5
set_option linter.unusedVariables false
set_option linter.unusedSimpArgs false
namespace Go.Vs

/-- The operation gives a value (or none), and G holds of it and of the world behind it. -/
def Does (P : Program) (o : Oper) (a : Act) (w : World) (G : Value → World → Prop) : Prop :=
  ∃ n v w', (execOp a.eval o).run P w = .ok n w' ∧ (n = .value v ∨ n = .skip ∧ v = Go.undef) ∧ G v w'

section
variable {P : Program} {w0 w : World} {S0 S : Stab} {M : Ctx} {σ : St} {a : Act} {μ : Nat → Value} {β : Nat → Option Nat} {o : Oper}

theorem Plus.nil {objs : List (Nat × Ob)} : ∀ b off, S b off → Plus S β objs [] b off := fun _ _ x => .inl x

theorem SimG.putD (h : SimG w0 S0 M σ a w S μ β) {dst : Option Nat} {sv : SV} {v : Value} (hd : ∀ d, dst = some d → d < σ.n) (hv : SVRel w S μ σ.objs sv v) :
    SimG w0 S0 M { σ with env := Vs.putD σ.env dst sv } (a.put dst v) w S μ β := by
  cases dst with
  | none => exact h
  | some d => exact h.put (hd d rfl) hv

theorem does_pure (h : SimG w0 S0 M σ a w S μ β) (hd : ∀ d, o.dst = some d → d < σ.n) {sv : SV} {v : Value} {fz : List Nat} {side : Prop}
    (hrun : (execOp a.eval o).run P w = .ok (.value v) w) (hv : SVRel w (Plus S β σ.objs fz) μ σ.objs sv v) :
    Does P o a w (fun v w' => Sim w0 S0 M (σ.apply o.dst { v := sv, side := side, fz := fz }) (a.put o.dst v) w') := by
  refine ⟨_, v, w, hrun, .inl rfl, Plus S β σ.objs fz, μ, β, ?_⟩
  exact (h.freeze fz).putD (σ := { σ with ro := fz ++ σ.ro }) hd hv

theorem does_pure0 (h : SimG w0 S0 M σ a w S μ β) (hd : ∀ d, o.dst = some d → d < σ.n) {sv : SV} {v : Value} {side : Prop}
    (hrun : (execOp a.eval o).run P w = .ok (.value v) w) (hv : SVRel w S μ σ.objs sv v) :
    Does P o a w (fun v w' => Sim w0 S0 M (σ.apply o.dst { v := sv, side := side }) (a.put o.dst v) w') :=
  does_pure (fz := []) h hd hrun (SVRel.mono (Keeps.refl _ _) Plus.nil _ _ hv)

theorem ba_toList (l : List UInt8) : (⟨l.toArray⟩ : ByteArray).toList = l := by rw [ByteArray.toList_eq]
theorem ba_size (l : List UInt8) : (⟨l.toArray⟩ : ByteArray).size = l.length := by simp [ByteArray.size]
theorem ba_append (l k : List UInt8) : (⟨l.toArray⟩ : ByteArray) ++ ⟨k.toArray⟩ = ⟨(l ++ k).toArray⟩ := by
  apply ByteArray.ext
  simp [ByteArray.data_append]
theorem ba_extract (l : List UInt8) (i j : Nat) : (⟨l.toArray⟩ : ByteArray).extract i j = ⟨((l.take j).drop i).toArray⟩ := by
  apply ByteArray.ext
  simp [ByteArray.data_extract, List.extract_eq_take_drop, List.drop_take]
theorem ba_get (l : List UInt8) (i : Nat) : (⟨l.toArray⟩ : ByteArray)[i]? = l[i]? := by
  by_cases h : i < l.length
  · have h' : i < (⟨l.toArray⟩ : ByteArray).size := by rw [ba_size]; exact h
    rw [getElem?_pos (c := (⟨l.toArray⟩ : ByteArray)) (i := i) h', getElem?_pos (c := l) (i := i) h]
    rfl
  · have h' : ¬ i < (⟨l.toArray⟩ : ByteArray).size := by rw [ba_size]; exact h
    rw [getElem?_neg (c := (⟨l.toArray⟩ : ByteArray)) (i := i) h', getElem?_neg (c := l) (i := i) h]

theorem snd_move (h : SimG w0 S0 M σ a w S μ β) (hd : ∀ d, o.dst = some d → d < σ.n) {x : Operand} {y : Opd} (ho : o.op = .move x ∨ o.op = .assign x) (hc : compOpd x = some y) :
    Does P o a w (fun v w' => Sim w0 S0 M (σ.apply o.dst { v := val σ y }) (a.put o.dst v) w') := by
  refine does_pure0 h hd (v := a.eval x) ?_ (opd_sound h hc)
  rcases ho with ho | ho <;> simp [execOp, ho]

theorem snd_pick (h : SimG w0 S0 M σ a w S μ β) (hd : ∀ d, o.dst = some d → d < σ.n) {c x y : Operand} {c' x' y' : Opd} (ho : o.op = .pick c x y)
    (hc : compOpd c = some c') (hx : compOpd x = some x') (hy : compOpd y = some y') {t : Bool} (hv : val σ c' = .val (.bool t)) :
    Does P o a w (fun v w' => Sim w0 S0 M (σ.apply o.dst { v := bif t then val σ x' else val σ y' }) (a.put o.dst v) w') := by
  have h1 : a.eval c = .bool t := by have := opd_sound h hc; rw [hv] at this; exact this
  refine does_pure0 h hd (v := if t then a.eval x else a.eval y) (by simp [execOp, ho, h1, asBool]) ?_
  cases t
  · exact opd_sound h hy
  · exact opd_sound h hx

theorem eqGuard_val {op : BinOp} {t : TypeId} {x y : Operand} {u v : Value} (h1 : ∀ cs, u ≠ .agg cs) (h2 : u ≠ .nilIface) : (eqGuard op t x y u v).run P w = .ok () w := by
  unfold eqGuard
  cases op <;> (try rfl) <;> cases u <;> first | (exact absurd rfl (h1 _)) | (exact absurd rfl h2) | rfl

theorem snd_binI (h : SimG w0 S0 M σ a w S μ β) (hd : ∀ d, o.dst = some d → d < σ.n) {op : BinOp} {t t' : TypeId} {x y : Operand} {x' y' : Opd} (ho : o.op = .binOp op t x y t')
    (hx : compOpd x = some x') (hy : compOpd y = some y') {k : IntKind} {m n : Int} (hv : val σ x' = .val (.int k m)) (hw : val σ y' = .val (.int k n)) {u : Upd} (hu : binI op k m n = some u) (hs : u.side) :
    Does P o a w (fun v w' => Sim w0 S0 M (σ.apply o.dst u) (a.put o.dst v) w') := by
  have h1 : a.eval x = .int k m := by have := opd_sound h hx; rw [hv] at this; exact this
  have h2 : a.eval y = .int k n := by have := opd_sound h hy; rw [hw] at this; exact this
  have hg : (eqGuard op t x y (.int k m) (.int k n)).run P w = .ok () w := eqGuard_val (by simp) (by simp)
  cases op <;> simp only [binI, Option.some.injEq, reduceCtorEq] at hu <;> subst hu
  case quo =>
    refine does_pure0 h hd ?_ rfl
    have hs : n ≠ 0 := hs
    simp only [execOp, ho, h1, h2, Sem.run_bind, hg, Result.andThen_ok]
    simp [binOp, Op.intDiv, hs]
  case rem =>
    refine does_pure0 h hd ?_ rfl
    have hs : n ≠ 0 := hs
    simp only [execOp, ho, h1, h2, Sem.run_bind, hg, Result.andThen_ok]
    simp [binOp, Op.intDiv, hs]
  case shl =>
    refine does_pure0 h hd ?_ rfl
    have hs : 0 ≤ n := hs
    simp only [execOp, ho, h1, h2, Sem.run_bind, hg, Result.andThen_ok]
    simp only [binOp, Op.shift]
    rw [if_neg (by omega)]
    simp
  case shr =>
    refine does_pure0 h hd ?_ rfl
    have hs : 0 ≤ n := hs
    simp only [execOp, ho, h1, h2, Sem.run_bind, hg, Result.andThen_ok]
    simp only [binOp, Op.shift]
    rw [if_neg (by omega)]
    simp
  all_goals
    refine does_pure0 h hd ?_ rfl
    simp only [execOp, ho, h1, h2, Sem.run_bind, hg, Result.andThen_ok]
    first
      | (simp [binOp, Op.intArith, Op.intCmp]; done)
      | (simp [binOp, Op.intArith, Op.intCmp]; rfl)

theorem snd_binS (h : SimG w0 S0 M σ a w S μ β) (hd : ∀ d, o.dst = some d → d < σ.n) {op : BinOp} {t t' : TypeId} {x y : Operand} {x' y' : Opd} (ho : o.op = .binOp op t x y t')
    (hx : compOpd x = some x') (hy : compOpd y = some y') {m n : List UInt8} (hv : val σ x' = .val (.str m)) (hw : val σ y' = .val (.str n)) {u : Upd} (hu : binS op m n = some u) (hs : u.side) :
    Does P o a w (fun v w' => Sim w0 S0 M (σ.apply o.dst u) (a.put o.dst v) w') := by
  have h1 : a.eval x = .string ⟨m.toArray⟩ := by have := opd_sound h hx; rw [hv] at this; exact this
  have h2 : a.eval y = .string ⟨n.toArray⟩ := by have := opd_sound h hy; rw [hw] at this; exact this
  have hg : (eqGuard op t x y (.string ⟨m.toArray⟩) (.string ⟨n.toArray⟩)).run P w = .ok () w := eqGuard_val (by simp) (by simp)
  have hb : (m == n) = decide (m = n) := by by_cases e : m = n <;> simp [e]
  cases op <;> simp only [binS, Option.some.injEq, reduceCtorEq] at hu <;> subst hu
  case add =>
    have hs : m.length + n.length ≤ 9223372036854775807 := hs
    refine does_pure0 h hd (v := .string ⟨(m ++ n).toArray⟩) ?_ rfl
    simp only [execOp, ho, h1, h2, Sem.run_bind, hg, Result.andThen_ok]
    simp only [binOp, Op.stringOp, ba_size, ba_append]
    rw [if_neg]
    · simp
    · have : IntKind.i64.max = 9223372036854775807 := by decide
      omega
  all_goals
    refine does_pure0 h hd ?_ rfl
    simp only [execOp, ho, h1, h2, Sem.run_bind, hg, Result.andThen_ok]
    simp [binOp, Op.stringOp, ba_toList, hb]

theorem run_eq {t : TypeId} {u v : Value} {b : Bool} (he : (Op.equalIn 10000 t u v).run P w = .ok b w) : ∀ op, op = .eql ∨ op = .neq →
    (binOp .eql t u v = do pure (.bool (← Op.equal t u v))) → (binOp .neq t u v = do pure (.bool (!(← Op.equal t u v)))) →
    (binOp op t u v).run P w = .ok (.bool ((op == .neq) ^^ b)) w := by
  intro op hop h1 h2
  rcases hop with rfl | rfl
  · rw [h1]; simp only [Sem.run_bind, Op.equal, Op.maxDepth, he, Result.andThen_ok, Sem.run_pure]; cases b <;> rfl
  · rw [h2]; simp only [Sem.run_bind, Op.equal, Op.maxDepth, he, Result.andThen_ok, Sem.run_pure]; cases b <;> rfl

theorem snd_eqG (h : SimG w0 S0 M σ a w S μ β) (hd : ∀ d, o.dst = some d → d < σ.n) {op : BinOp} {t t' : TypeId} {x y : Operand} (ho : o.op = .binOp op t x y t') (hop : op = .eql ∨ op = .neq)
    {u v : Value} (hu : a.eval x = u) (hv : a.eval y = v) (hg : (eqGuard op t x y u v).run P w = .ok () w) {b : Bool} (he : (Op.equalIn 10000 t u v).run P w = .ok b w)
    (h1 : binOp .eql t u v = do pure (.bool (← Op.equal t u v))) (h2 : binOp .neq t u v = do pure (.bool (!(← Op.equal t u v)))) :
    Does P o a w (fun v w' => Sim w0 S0 M (σ.apply o.dst { v := .val (.bool ((op == .neq) ^^ b)) }) (a.put o.dst v) w') := by
  refine does_pure0 h hd (v := .bool ((op == .neq) ^^ b)) ?_ rfl
  simp only [execOp, ho, hu, hv, Sem.run_bind, hg, Result.andThen_ok, run_eq he op hop h1 h2, Sem.run_pure]

theorem snd_eqB (h : SimG w0 S0 M σ a w S μ β) (hd : ∀ d, o.dst = some d → d < σ.n) {op : BinOp} {t t' : TypeId} {x y : Operand} {x' y' : Opd} (ho : o.op = .binOp op t x y t') (hop : op = .eql ∨ op = .neq)
    (ht : P.underlying t = some .bool) (hx : compOpd x = some x') (hy : compOpd y = some y') {m n : Bool} (hv : val σ x' = .val (.bool m)) (hw : val σ y' = .val (.bool n)) :
    Does P o a w (fun v w' => Sim w0 S0 M (σ.apply o.dst { v := .val (.bool ((op == .neq) ^^ (m == n))) }) (a.put o.dst v) w') := by
  have h1 : a.eval x = .bool m := by have := opd_sound h hx; rw [hv] at this; exact this
  have h2 : a.eval y = .bool n := by have := opd_sound h hy; rw [hw] at this; exact this
  exact snd_eqG h hd ho hop h1 h2 (eqGuard_val (by simp) (by simp)) (run_equalIn_bool' w 9999 t m n ht) rfl rfl

theorem snd_un (h : SimG w0 S0 M σ a w S μ β) (hd : ∀ d, o.dst = some d → d < σ.n) {t : TypeId} {x : Operand} {x' : Opd} (hx : compOpd x = some x') :
    (∀ {k n}, o.op = .unOp .neg t x → val σ x' = .val (.int k n) → Does P o a w (fun v w' => Sim w0 S0 M (σ.apply o.dst { v := .val (.int k (k.wrap (0 - n))) }) (a.put o.dst v) w')) ∧
    (∀ {b}, o.op = .unOp .not t x → val σ x' = .val (.bool b) → Does P o a w (fun v w' => Sim w0 S0 M (σ.apply o.dst { v := .val (.bool (!b)) }) (a.put o.dst v) w')) := by
  refine ⟨fun {k n} ho hv => ?_, fun {b} ho hv => ?_⟩
  · have h1 : a.eval x = .int k n := by have := opd_sound h hx; rw [hv] at this; exact this
    exact does_pure0 h hd (v := .int k (k.wrap (0 - n))) (by simp only [execOp, ho, h1, Op.unary, Op.intArith]; rfl) rfl
  · have h1 : a.eval x = .bool b := by have := opd_sound h hx; rw [hv] at this; exact this
    exact does_pure0 h hd (v := .bool (!b)) (by simp only [execOp, ho, h1, Op.unary]; rfl) rfl

theorem snd_conv (h : SimG w0 S0 M σ a w S μ β) (hd : ∀ d, o.dst = some d → d < σ.n) {s t : TypeId} {x : Operand} {x' : Opd} (ho : o.op = .convert s t x) (hx : compOpd x = some x') :
    (∀ {sk k k' n}, P.underlying s = some (.int sk) → P.underlying t = some (.int k) → val σ x' = .val (.int k' n) → Does P o a w (fun v w' => Sim w0 S0 M (σ.apply o.dst { v := .val (.int k (k.wrap n)) }) (a.put o.dst v) w')) ∧
    (∀ {b}, P.underlying s = some .string → P.underlying t = some .string → val σ x' = .val (.str b) → Does P o a w (fun v w' => Sim w0 S0 M (σ.apply o.dst { v := .val (.str b) }) (a.put o.dst v) w')) := by
  refine ⟨fun {sk k k' n} hs ht hv => ?_, fun {b} hs ht hv => ?_⟩
  · have h1 : a.eval x = .int k' n := by have := opd_sound h hx; rw [hv] at this; exact this
    exact does_pure0 h hd (v := .int k (k.wrap n)) (by simp [execOp, ho, h1, convert, run_underlying hs, run_underlying ht, Conv.intToInt]) rfl
  · have h1 : a.eval x = .string ⟨b.toArray⟩ := by have := opd_sound h hx; rw [hv] at this; exact this
    exact does_pure0 h hd (v := .string ⟨b.toArray⟩) (by simp [execOp, ho, h1, convert, run_underlying hs, run_underlying ht]) rfl

theorem run_nilI1 (d : Nat) {t : TypeId} {ms : Array (String × TypeId)} (ht : P.underlying t = some (.interface ms)) (ty : TypeId) (u : Value) : (Op.equalIn (d + 1) t (.iface ty u) .nilIface).run P w = .ok false w := by
  simp [Op.equalIn, run_underlying ht]
theorem run_nilI2 (d : Nat) {t : TypeId} {ms : Array (String × TypeId)} (ht : P.underlying t = some (.interface ms)) : (Op.equalIn (d + 1) t .nilIface .nilIface).run P w = .ok true w := by
  simp [Op.equalIn, run_underlying ht]
theorem run_nilP1 (d : Nat) {t e : TypeId} (ht : P.underlying t = some (.pointer e)) (p : Addr) : (Op.equalIn (d + 1) t (.pointer (some p)) (.pointer none)).run P w = .ok false w := by
  simp [Op.equalIn, run_underlying ht]
theorem run_nilP2 (d : Nat) {t e : TypeId} (ht : P.underlying t = some (.pointer e)) : (Op.equalIn (d + 1) t (.pointer none) (.pointer none)).run P w = .ok true w := by
  simp [Op.equalIn, run_underlying ht]

theorem snd_eqNi (h : SimG w0 S0 M σ a w S μ β) (hd : ∀ d, o.dst = some d → d < σ.n) {op : BinOp} {t t' : TypeId} {x : Operand} (ho : o.op = .binOp op t x (.const .nilIface) t') (hop : op = .eql ∨ op = .neq)
    {ms : Array (String × TypeId)} (ht : P.underlying t = some (.interface ms)) {b : Bool} (hv : (∃ ty u, a.eval x = .iface ty u ∧ b = false) ∨ (a.eval x = .nilIface ∧ b = true)) :
    Does P o a w (fun v w' => Sim w0 S0 M (σ.apply o.dst { v := .val (.bool ((op == .neq) ^^ b)) }) (a.put o.dst v) w') := by
  rcases hv with ⟨ty, u, h1, rfl⟩ | ⟨h1, rfl⟩
  · refine snd_eqG h hd ho hop h1 rfl (eqGuard_val (by simp) (by simp)) ?_ rfl rfl
    exact run_nilI1 9999 ht ty u
  · refine snd_eqG h hd ho hop h1 rfl ?_ ?_ rfl rfl
    · rcases hop with rfl | rfl <;> simp [eqGuard, Act.eval]
    · exact run_nilI2 9999 ht

theorem snd_eqNp (h : SimG w0 S0 M σ a w S μ β) (hd : ∀ d, o.dst = some d → d < σ.n) {op : BinOp} {t t' : TypeId} {x : Operand} (ho : o.op = .binOp op t x (.const (.pointer none)) t') (hop : op = .eql ∨ op = .neq)
    {e : TypeId} (ht : P.underlying t = some (.pointer e)) {b : Bool} (hv : (∃ p, a.eval x = .pointer (some p) ∧ b = false) ∨ (a.eval x = .pointer none ∧ b = true)) :
    Does P o a w (fun v w' => Sim w0 S0 M (σ.apply o.dst { v := .val (.bool ((op == .neq) ^^ b)) }) (a.put o.dst v) w') := by
  rcases hv with ⟨p, h1, rfl⟩ | ⟨h1, rfl⟩
  · refine snd_eqG h hd ho hop h1 rfl (eqGuard_val (by simp) (by simp)) ?_ rfl rfl
    exact run_nilP1 9999 ht p
  · refine snd_eqG h hd ho hop h1 rfl (eqGuard_val (by simp) (by simp)) ?_ rfl rfl
    exact run_nilP2 9999 ht

theorem run_nilS (d : Nat) {t e : TypeId} (ht : P.underlying t = some (.slice e)) (p : Option Addr) (n c : Nat) : (Op.equalIn (d + 1) t (.slice p n c) (.slice none 0 0)).run P w = .ok p.isNone w := by
  cases p <;> simp [Op.equalIn, run_underlying ht]
theorem snd_eqNs (h : SimG w0 S0 M σ a w S μ β) (hd : ∀ d, o.dst = some d → d < σ.n) {op : BinOp} {t t' : TypeId} {x : Operand} (ho : o.op = .binOp op t x (.const (.slice none 0 0)) t') (hop : op = .eql ∨ op = .neq)
    {e : TypeId} (ht : P.underlying t = some (.slice e)) {p : Option Addr} {n c : Nat} (hv : a.eval x = .slice p n c) :
    Does P o a w (fun v w' => Sim w0 S0 M (σ.apply o.dst { v := .val (.bool ((op == .neq) ^^ p.isNone)) }) (a.put o.dst v) w') ∧
    Does P o a w (fun v w' => Sim w0 S0 M (σ.apply o.dst { v := .anyB }) (a.put o.dst v) w') := by
  have hg : (eqGuard op t x (.const (.slice none 0 0)) (.slice p n c) (.slice none 0 0)).run P w = .ok () w := eqGuard_val (by simp) (by simp)
  refine ⟨snd_eqG h hd ho hop hv rfl hg (run_nilS 9999 ht p n c) rfl rfl, does_pure0 h hd (v := .bool ((op == .neq) ^^ p.isNone)) ?_ ⟨_, rfl⟩⟩
  have e2 : a.eval (.const (.slice none 0 0)) = .slice none 0 0 := rfl
  simp only [execOp, ho, hv, e2, Sem.run_bind, hg, Result.andThen_ok, run_eq (run_nilS 9999 ht p n c) op hop rfl rfl, Sem.run_pure]

/- A struct that is compared cell by cell. -/
theorem aggOf_some {t : TypeId} {n : Nat} (h : aggOf P t = some (some n)) : ∃ d i, P.underlying t = some d ∧ P.info? t = some i ∧ i.size = n ∧ isAggD d = true := by
  unfold aggOf at h
  split at h
  · next fs i h1 h2 => exact ⟨_, i, h1, h2, by simpa using h, rfl⟩
  · next m e i h1 h2 => exact ⟨_, i, h1, h2, by simpa using h, rfl⟩
  · next d i h1 h2 _ _ => split at h <;> simp at h
  · simp at h
theorem aggOf_none {t : TypeId} (h : aggOf P t = some none) : ∃ d i, P.underlying t = some d ∧ P.info? t = some i ∧ i.size = 1 ∧ isAggD d = false := by
  unfold aggOf at h
  split at h
  · simp at h
  · simp at h
  · next d i h3 h4 h1 h2 =>
    split at h
    · next h5 =>
      refine ⟨d, i, h1, h2, h5, ?_⟩
      cases d <;> first | rfl | (exact absurd rfl (h3 _)) | (exact absurd rfl (h4 _ _))
    · simp at h
  · simp at h
theorem run_isAgg {t : TypeId} {d : TypeDesc} (h : P.underlying t = some d) (w : World) : (isAgg t).run P w = .ok (isAggD d) w := by
  unfold isAgg
  rw [Sem.run_bind, run_underlying h]
  cases d <;> rfl
theorem run_sizeT {t : TypeId} {n : Nat} (h : sizeT P t = some n) (w : World) : (sizeOf t).run P w = .ok n w := by
  unfold sizeT at h
  cases hi : P.info? t with
  | none => rw [hi] at h; simp at h
  | some i => rw [hi] at h; simp at h; simp [sizeOf, typeInfo, hi, h]
theorem run_sizeI {t : TypeId} {i : TypeInfo} (h : P.info? t = some i) (w : World) : (sizeOf t).run P w = .ok i.size w := by
  simp [sizeOf, typeInfo, h]

end
end Go.Vs
