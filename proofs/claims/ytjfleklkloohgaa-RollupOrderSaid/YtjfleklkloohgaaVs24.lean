/- Value semantics, part 24: a law's row, from its contract. No conditions. -/
import Derived.Test.YtjfleklkloohgaaVs23
import Derived.Handed
import Derived.JoinedOf
import Derived.WideKeyArgs
set_option linter.unusedVariables false
set_option linter.unusedSimpArgs false
namespace Go.Vs
open Go.ChangeShapes Go.WideShapes Go.RowKit

/-- An argument of the shape. -/
def Arg : Sc → IV → Prop
  | .struct scs, v => ∃ l, v = .agg l ∧ Shs scs l
  | .arr n e, v => ∃ l, v = .agg l ∧ Sh (.arr n e) l
  | sc, v => Sh sc [v]
def Args : List Sc → List IV → Prop
  | [], l => l = []
  | s :: r, l => ∃ v b, l = v :: b ∧ Arg s v ∧ Args r b
def scsOk (P : Program) : List Sc → List TypeId → Bool
  | [], [] => true
  | s :: r, t :: ts => scOk P s t && scsOk P r ts
  | _, _ => false

section
variable {H : Type} {enc : TypeId × Value → H} {P : Program} {w : World} {base : Nat} {spare : Nat → Bool} {held : Bool}

theorem one_rep {S : Stab} {iv : IV} {v : Value} (h : RepOnes w S [iv] [v]) : Rep w S iv v := by
  obtain ⟨u, us, h1, _, h2, _⟩ := h
  simp only [List.cons.injEq] at h1
  rw [h1.1]; exact h2

theorem arg_rep {sc : Sc} {t : TypeId} {v : Value} {d : DataW H} {ps : List MemPlace} {b0 : Nat} (hs : scOk P sc t = true) (hd : DataW.Trod enc P w base spare held t v d ps) (hok : Value.okWide P w .any b0 t v) : ∃ iv, Arg sc iv ∧ Rep w (Old w) iv v := by
  obtain ⟨fuel, hf⟩ := hd
  obtain ⟨ivs, h1, h2, h3⟩ := trod_rep sc fuel t _ _ hs hf
  have one : ∀ {u : Value}, u.cells.toList = [u] → v = u → sc.size = 1 → ∃ iv, ivs = [iv] ∧ Rep w (Old w) iv v := by
    intro u hu hv hsz
    rw [hsz] at h3
    obtain ⟨iv, rfl⟩ := List.length_eq_one_iff.1 h3
    subst hv
    rw [hu] at h2
    exact ⟨iv, rfl, one_rep h2⟩
  cases sc with
  | int k =>
    simp only [scOk] at hs
    split at hs
    · next k' ht =>
      obtain ⟨n, rfl⟩ := okWide_int ht hok
      obtain ⟨iv, rfl, q⟩ := one rfl rfl rfl
      exact ⟨iv, h1, q⟩
    · simp at hs
  | bool =>
    simp only [scOk] at hs
    split at hs
    · next ht =>
      obtain ⟨n, rfl⟩ := okWide_bool ht hok
      obtain ⟨iv, rfl, q⟩ := one rfl rfl rfl
      exact ⟨iv, h1, q⟩
    · simp at hs
  | str =>
    simp only [scOk] at hs
    split at hs
    · next ht =>
      obtain ⟨n, rfl⟩ := okWide_string ht hok
      obtain ⟨iv, rfl, q⟩ := one rfl rfl rfl
      exact ⟨iv, h1, q⟩
    · simp at hs
  | slice e =>
    simp only [scOk] at hs
    split at hs
    · next te ht =>
      obtain ⟨a, len, cap, rfl⟩ := okWide_slice ht hok
      obtain ⟨iv, rfl, q⟩ := one rfl rfl rfl
      exact ⟨iv, h1, q⟩
    · simp at hs
  | struct scs =>
    simp only [scOk] at hs
    split at hs
    · next fs ht =>
      simp only [Value.okWide, ht] at hok
      obtain ⟨cs, rfl, _, _⟩ := hok
      exact ⟨.agg ivs, ⟨ivs, rfl, h1⟩, cs, rfl, h2⟩
    · simp at hs
  | arr n e =>
    simp only [scOk] at hs
    split at hs
    · next m te ht =>
      simp only [Value.okWide, ht] at hok
      obtain ⟨cs, rfl, _, _⟩ := hok
      exact ⟨.agg ivs, ⟨ivs, rfl, h1⟩, cs, rfl, h2⟩
    · simp at hs

theorem args_rep : ∀ {scs : List Sc} {ts : List TypeId} {vs : List Value} {ds : List (DataW H)} {ps : List MemPlace} {b0 : Nat}, scsOk P scs ts = true → DataW.TrodAll enc P w base spare held ts vs ds ps →
    (∀ (j : Nat) t v, ts[j]? = some t → vs[j]? = some v → Value.okWide P w .any b0 t v) → ∃ ivs, Args scs ivs ∧ RepList w (Old w) ivs vs ∧ ds.length = ts.length
  | [], [], [], [], _, _, _, _, _ => ⟨[], rfl, rfl, rfl⟩
  | [], _ :: _, _, _, _, _, h, _, _ => by simp [scsOk] at h
  | _ :: _, [], _, _, _, _, h, _, _ => by simp [scsOk] at h
  | s :: r, t :: ts, v :: vs, d :: ds, ps, b0, h, ⟨p, q, h1, h2, _⟩, hok => by
    simp only [scsOk, Bool.and_eq_true] at h
    obtain ⟨iv, a1, a2⟩ := arg_rep h.1 h1 (hok 0 t v rfl rfl)
    obtain ⟨ivs, b1, b2, b3⟩ := args_rep h.2 h2 (fun j t' v' ht hv => hok (j + 1) t' v' ht hv)
    exact ⟨iv :: ivs, ⟨iv, ivs, rfl, a1, b1⟩, ⟨v, vs, rfl, a2, b2⟩, by simp [b3]⟩
  | [], [], [], _ :: _, _, _, _, h, _ => h.elim
  | [], [], _ :: _, _, _, _, _, h, _ => h.elim
  | _ :: _, _ :: _, [], _, _, _, _, h, _ => h.elim
  | _ :: _, _ :: _, _ :: _, [], _, _, _, h, _ => h.elim

theorem trodAll_stays (hl : laidOutB P = true) {W W' : World} {sp' : Nat → Bool} : ∀ {ts : List TypeId} {vs : List Value} {ds : List (DataW H)} {ps : List MemPlace}, ts.all (fun t => P.readableRec t && decide (t < P.types.size)) = true →
    DataW.TrodAll enc P W base (fun _ => true) true ts vs ds ps → (∀ p ∈ ps, W.sameAt W' p) → (∀ p ∈ ps, sp' p.block = true) → DataW.TrodAll enc P W' base sp' true ts vs ds ps
  | [], [], [], _, _, h, _, _ => h
  | t :: ts, v :: vs, d :: ds, ps, hr, ⟨p, q, h1, h2, h3⟩, hs, hp => by
    subst h3
    simp only [List.all_cons, Bool.and_eq_true, decide_eq_true_eq] at hr
    exact ⟨p, q, WideElems.Trod_stays hl hr.1.1 hr.1.2 h1 (fun x hx => hs x (List.mem_append_left _ hx)) (fun x hx => hp x (List.mem_append_left _ hx)),
      trodAll_stays hl hr.2 h2 (fun x hx => hs x (List.mem_append_right _ hx)) (fun x hx => hp x (List.mem_append_right _ hx)), rfl⟩
  | [], [], _ :: _, _, _, h, _, _ => h.elim
  | [], _ :: _, _, _, _, h, _, _ => h.elim
  | _ :: _, [], _, _, _, h, _, _ => h.elim
  | _ :: _, _ :: _, [], _, _, h, _, _ => h.elim
end

theorem Kept.below {w w' : World} (h : Kept (fun _ => False) w w') : Below w.heap.size w w' := ⟨h.os, h.tape, h.output, h.size, fun k hk => h.block k hk (fun x => x)⟩

theorem wf_range {k : IntKind} {n : Int} (h : (Lit.int k n).wf = true) : k.min ≤ n ∧ n ≤ k.max := by simpa [Lit.wf] using h
theorem wf_u8 {n : Int} (h : (Lit.int .u8 n).wf = true) : 0 ≤ n ∧ n ≤ 255 := wf_range h
theorem wf_u16 {n : Int} (h : (Lit.int .u16 n).wf = true) : 0 ≤ n ∧ n ≤ 65535 := wf_range h
theorem wf_i64 {n : Int} (h : (Lit.int .i64 n).wf = true) : -9223372036854775808 ≤ n ∧ n ≤ 9223372036854775807 := wf_range h

/-- A LAW's ROW: where the contract says true at all arguments of the shapes. -/
theorem law_lifted {H : Type} {enc : TypeId × Value → H} {a : Assume} {C : Checked} {os : Os} {k : FuncId} {fn : Func} {s : ChangeSpec}
    (own : ownKnob C.prog.godebug = none) (started : os.Started) (noInit : C.prog.inits.idxOf? k = none) (hfn : C.prog.funcs[k]? = some fn)
    (witness : ∃ (w : World) (tape : Tape) (i : Input), w.os = os ∧ (w.forCall tape i).Shaped C.prog ∧ i.vars = [] ∧ Input.okWide C.prog (w.forCall tape i) .any w.heap.size k i ∧
      s.pre6 enc C.prog fn [] false (w.forCall tape i).memory i.args ∧ a.holds C.prog (lone (Frame.enter C.prog k i.args .normal) [] (w.forCall tape i)))
    (scs : List Sc) (hsc : scsOk C.prog scs fn.params.toList = true) (tb : TypeId) (hres : fn.resultTypes = #[tb]) (htb : C.prog.underlying tb = some .bool) (hv : s.vars = [])
    (hs : ∀ ds : List (DataW H), ds.length = fn.params.toList.length → s.fn H ds = { results := [.lit (.bool true)], args := ds })
    (hl : laidOutB C.prog = true) (hr : fn.params.toList.all (fun t => C.prog.readableRec t && decide (t < C.prog.types.size)) = true)
    (h : ∀ args, Args scs args → Fn [] C.prog k args (.bool true)) :
    ReturnsInHanded a C os k .any (s.pre6 enc C.prog fn [] false) (s.post enc C.prog fn false true false false) := by
  refine returnsInHanded_of_change own started noInit hfn witness ?_
  intro W base args ds gs before hval hW _ _
  obtain ⟨p, q, hA, hV, rfl, hfz, hnd⟩ := id hW
  obtain ⟨ivs, h1, h2, h3⟩ := args_rep hsc hA (fun j t v ht hv => hval j t v (by simpa using ht) (by simpa using hv))
  rw [hv] at hV
  have hg : gs = [] ∧ q = [] := by
    cases gs with
    | nil => exact ⟨rfl, hV⟩
    | cons g r => exact hV.elim
  obtain ⟨rfl, rfl⟩ := hg
  have hc := (h ivs h1).2 W (Old W) args.toList (fun b o hb => hb) h2 (fun p hp => by simp at hp)
  rw [Array.toArray_toList] at hc
  refine hc.mono fun e W' ⟨v, S', he, hv', _, _, _, hk⟩ => ?_
  have hv' : v = .bool true := hv'
  subst hv'
  refine ⟨.bool true, he, ?_⟩
  have hb := hk.below
  have hfn' : s.fn H (ds ++ []) = { results := [.lit (.bool true)], args := ds } := by rw [List.append_nil]; exact hs ds h3
  have hlt : ∀ x ∈ p, x.block < W.heap.size := fun x hx => hW.lt x (List.mem_append_left _ hx)
  refine ⟨ds, [], p ++ [], [], p, [], hW, ?_, ?_, ?_, ?_, fun hh => by cases hh⟩
  · rw [hfn', hres]
    exact ⟨[], [], shut_bool htb true, rfl, rfl⟩
  · rw [hfn']
    exact trodAll_stays hl hr hA (fun x hx => hb.same (hlt x hx)) (fun x hx => by simpa using hlt x hx)
  · rw [hfn', hv]; rfl
  · exact World.keptBut_mono (fun x hx => ⟨hx, .inr (.inl (by simpa using hx))⟩) (hb.frame (· ∈ p ++ []))
end Go.Vs
