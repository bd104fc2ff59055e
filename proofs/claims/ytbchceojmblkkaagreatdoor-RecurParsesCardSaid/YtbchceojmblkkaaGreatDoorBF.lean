/- errors.As at the targets **Fault and *Errno: the walks, at chains of whatever depth. No conditions. -/
import Derived.Test.YtbchceojmblkkaaGreatDoorBE
import Derived.LoopTactic
import Derived.Lib.Hide
set_option linter.unusedVariables false
set_option linter.unusedSimpArgs false
set_option linter.unusedSimpArgs false
set_option linter.unusedVariables false
namespace Go.Vs.YtbchceojmblkkaaGreatDoor.E
open Go.Proofs Go.Proofs.YtbchceojmblkkaaGreatDoor Go.RowKit Go.Extern.Stop Go.Stop Go.Extern
set_option maxRecDepth 1000000
set_option pp.deepTerms true

def ErrV (W : World) (n : Int) : List Int → Value → Prop
 | [], E => E = .iface 37 (.int .i64 n)
 | p :: ps, E => ∃ pb po, E = .iface 114 (.pointer (some ⟨pb, po, none⟩)) ∧ ∃ E', W.cell? ⟨pb, po + 1, none⟩ = some E' ∧ ErrV W n ps E'
theorem ErrV.unique {W : World} {n : Int} : ∀ {ps qs : List Int} {E : Value}, ErrV W n ps E → ErrV W n qs E → ps.length = qs.length
 | [], [], _, _, _ => rfl
 | [], _ :: _, _, h, ⟨_, _, h', _⟩ => by have h : _ = _ := h; rw [h] at h'; simp at h'
 | _ :: _, [], _, ⟨_, _, h', _⟩, h => by have h : _ = _ := h; rw [h] at h'; simp at h'
 | _ :: ps, _ :: qs, _, ⟨pb, po, h1, E1, h2, h3⟩, ⟨pb', po', k1, E2, k2, k3⟩ => by
  subst h1
  simp only [Value.iface.injEq, Value.pointer.injEq, Option.some.injEq, Addr.mk.injEq, true_and, and_true] at k1
  obtain ⟨rfl, rfl⟩ := k1
  rw [h2] at k2
  obtain rfl := Option.some.inj k2
  simp [ErrV.unique h3 k3]
theorem ErrV.mono {W W' : World} {n : Int} (hk : ∀ a v, W.cell? a = some v → W'.cell? a = some v) : ∀ {ps : List Int} {E : Value}, ErrV W n ps E → ErrV W' n ps E
 | [], _, h => h
 | _ :: ps, _, ⟨pb, po, h1, E1, h2, h3⟩ => ⟨pb, po, h1, E1, hk _ _ h2, ErrV.mono hk h3⟩
open Classical in
noncomputable def errLen (W : World) (n : Int) (E : Value) : Nat := if h : ∃ l, ErrV W n l E then h.choose.length else 0
theorem errLen_eq {W : World} {n : Int} {E : Value} {l : List Int} (h : ErrV W n l E) : errLen W n E = l.length := by
 unfold errLen
 have hx : ∃ l, ErrV W n l E := ⟨l, h⟩
 rw [dif_pos hx]
 exact ErrV.unique hx.choose_spec h
theorem cell_alloc {w : World} {o : Obj} : ∀ a v, w.cell? a = some v → (w.alloc o).cell? a = some v := by
 intro a v h
 have hlt : a.block < w.heap.size := by
  rcases Nat.lt_or_ge a.block w.heap.size with h' | h'
  ·exact h'
  ·simp [World.cell?, Array.getElem?_eq_none h'] at h
 rw [World.cell?_alloc_lt _ _ a hlt]; exact h
theorem cell_lt {w : World} {a : Addr} {v : Value} (h : w.cell? a = some v) : a.block < w.heap.size := by
 rcases Nat.lt_or_ge a.block w.heap.size with h' | h'
 ·exact h'
 ·simp [World.cell?, Array.getElem?_eq_none h'] at h
theorem frozen_alloc {w : World} {o : Obj} {a : Addr} (h : a.block < w.heap.size) (hf : w.frozen? a = false) : (w.alloc o).frozen? a = false := by
 rw [World.frozen?_alloc_old _ _ a (Nat.ne_of_lt h)]; exact hf

theorem unw (pb po : Nat) (E : Value) (w : World) (h : w.cell? ⟨pb, po + 1, none⟩ = some E) :
  Calls Tryz.prog 271 #[.pointer (some ⟨pb, po, none⟩)] w fun e w' => e = .returned E ∧ w' = w := by
 go_enter Tryz.func271, Tryz.ntmps271
 go_wp2
 go_ret
 exact ⟨rfl, rfl⟩

set_option maxHeartbeats 4000000 in
theorem as_eno (n : Int) (ps : List Int) (E : Value) (W : World) (a t : Addr) (old : Value) (hE : ErrV W n ps E) (ha : W.cell? a = some (.pointer (some t))) (ht : W.cell? t = some old) (hf : W.frozen? t = false) :
  Calls Tryz.prog 134 #[E, .iface 126 (.pointer (some t)), .agg #[.pointer (some ⟨8, 126, none⟩), .pointer (some a), .int .u64 150], .iface 245 (.agg #[.pointer (some ⟨8, 37, none⟩)])] W
   fun e w' => e = .returned (.bool true) ∧ w' = ((W.alloc (.cells #[.pointer (some ⟨8, 126, none⟩), .pointer (some a), .int .u64 150] 192)).alloc (.cells #[.int .i64 n] 37)).setCell t (.int .i64 n) := by
 have hTO := @run_callFunc_extern Tryz.prog 171 _ ReflectliteType.typeOf Tryz.func171 (by kernel_rfl) (by kernel_rfl) (by kernel_rfl) (by kernel_rfl)
 have hAss := @run_callFunc_extern Tryz.prog 277 _ (ReflectliteType.relation "AssignableTo" ReflectliteType.assignableTo) Tryz.func277 (by kernel_rfl) (by kernel_rfl) (by kernel_rfl) (by kernel_rfl)
 have hVE := @run_callFunc_extern Tryz.prog 172 _ (ReflectliteValue.method (ReflectliteValue.valueError "reflectlite.Value.Elem" 0) ReflectliteValue.elem) Tryz.func172 (by kernel_rfl) (by kernel_rfl) (by kernel_rfl) (by kernel_rfl)
 have hVO := @run_callFunc_extern Tryz.prog 131 _ (fun args => ReflectliteValue.unpack (args.getD 0 (.tuple #[]))) Tryz.func131 (by kernel_rfl) (by kernel_rfl) (by kernel_rfl) (by kernel_rfl)
 have hVS := @run_callFunc_extern Tryz.prog 173 _ ReflectliteValue.set Tryz.func173 (by kernel_rfl) (by kernel_rfl) (by kernel_rfl) (by kernel_rfl)
 have q1 := typeF; have q2 := typeE; have q3 := mAss; have q4 := assFE; have q5 := assEE; have q6 := noAsF; have q7 := unwF; have q8 := mUnw; have q9 := voE
 have hE1 := ErrV.mono (cell_alloc (o := .cells #[.pointer (some ⟨8, 126, none⟩), .pointer (some a), .int .u64 150] 192)) hE
 obtain ⟨W1, hW1⟩ : ∃ W1, W1 = W.alloc (.cells #[.pointer (some ⟨8, 126, none⟩), .pointer (some a), .int .u64 150] 192) := ⟨_, rfl⟩
 rw [← hW1] at hE1
 have el := elemV2 a t W1 (by rw [hW1]; exact cell_alloc _ _ ha)
 have hlt : t.block < W.heap.size := cell_lt ht
 have st := set2 t ⟨W1.heap.size, 0, none⟩ n old (W1.alloc (.cells #[.int .i64 n] 37)) (by rw [World.cell?_alloc_at _ _ _ _ (by simp)]; rfl) (by rw [hW1]; exact cell_alloc _ _ (cell_alloc _ _ ht))
  (by rw [hW1]; exact frozen_alloc (by simp; omega) (frozen_alloc hlt hf))
 have box : ⟨W.heap.size, 0, none⟩ = (⟨W.heap.size, 0, none⟩ : Addr) := rfl
 have c0 : W1.cell? ⟨W.heap.size, 0, none⟩ = some (.pointer (some ⟨8, 126, none⟩)) := by rw [hW1]; simp
 have c1 : W1.cell? ⟨W.heap.size, 1, none⟩ = some (.pointer (some a)) := by rw [hW1]; simp
 have c2 : W1.cell? ⟨W.heap.size, 2, none⟩ = some (.int .u64 150) := by rw [hW1]; simp
 have HW := Lib.hid hW1
 clear hW1 hE ha ht hf hlt box
 go_enter Tryz.func134, Tryz.ntmps134
 go_wp2
 go_loopw [0] (fun E' wl => wl = W1 ∧ ∃ l', ErrV W1 n l' E') (fun E' _ => errLen W1 n E')
 case atStart => exact ⟨HW.out.symm, ps, hE1⟩
 case round =>
  obtain ⟨hwl, l', hc'⟩ := hrel
  subst hwl
  cases l' with
  | nil =>
   obtain rfl : _ = _ := hc'
   go_wp2
   go_ret
   exact ⟨rfl, by rw [HW.out]⟩
  | cons p l' =>
   obtain ⟨pb, po, rfl, E1, h2, h3⟩ := hc'
   have m1 := errLen_eq h3
   have m2 : errLen _ n (.iface 114 (.pointer (some ⟨pb, po, none⟩))) = l'.length + 1 := errLen_eq (l := p :: l') ⟨pb, po, rfl, E1, h2, h3⟩
   have hne : ∃ T v, E1 = .iface T v := by
    cases l' with
    | nil => exact ⟨_, _, h3⟩
    | cons p l' => obtain ⟨pb, po, h, _⟩ := h3; exact ⟨_, _, h⟩
   obtain ⟨T, v, rfl⟩ := hne
   have M1 := Lib.hid m1
   have M2 := Lib.hid m2
   have H3 := Lib.hid h3
   clear m1 m2 h3
   go_wp2_with (go_at_call 271; refine (unw pb po _ _ h2).mono ?_; rintro e w' ⟨rfl, rfl⟩)
   go_roundw
   case rel => exact ⟨trivial, l', H3.out⟩
   case measure => rw [M1.out, M2.out]; omega

theorem as_pf (e a t : Addr) (old : Value) (W : World) (ha : W.cell? a = some (.pointer (some t))) (ht : W.cell? t = some old) (hf : W.frozen? t = false) :
  Calls Tryz.prog 134 #[.iface 114 (.pointer (some e)), .iface 116 (.pointer (some t)), .agg #[.pointer (some ⟨8, 116, none⟩), .pointer (some a), .int .u64 150], .iface 245 (.agg #[.pointer (some ⟨8, 114, none⟩)])] W
   fun ev w' => ev = .returned (.bool true) ∧ w' = ((W.alloc (.cells #[.pointer (some ⟨8, 116, none⟩), .pointer (some a), .int .u64 150] 192)).alloc (.cells #[.pointer (some e)] 114)).setCell t (.pointer (some e)) := by
 have hTO := @run_callFunc_extern Tryz.prog 171 _ ReflectliteType.typeOf Tryz.func171 (by kernel_rfl) (by kernel_rfl) (by kernel_rfl) (by kernel_rfl)
 have hAss := @run_callFunc_extern Tryz.prog 277 _ (ReflectliteType.relation "AssignableTo" ReflectliteType.assignableTo) Tryz.func277 (by kernel_rfl) (by kernel_rfl) (by kernel_rfl) (by kernel_rfl)
 have hVE := @run_callFunc_extern Tryz.prog 172 _ (ReflectliteValue.method (ReflectliteValue.valueError "reflectlite.Value.Elem" 0) ReflectliteValue.elem) Tryz.func172 (by kernel_rfl) (by kernel_rfl) (by kernel_rfl) (by kernel_rfl)
 have hVO := @run_callFunc_extern Tryz.prog 131 _ (fun args => ReflectliteValue.unpack (args.getD 0 (.tuple #[]))) Tryz.func131 (by kernel_rfl) (by kernel_rfl) (by kernel_rfl) (by kernel_rfl)
 have hVS := @run_callFunc_extern Tryz.prog 173 _ ReflectliteValue.set Tryz.func173 (by kernel_rfl) (by kernel_rfl) (by kernel_rfl) (by kernel_rfl)
 have q1 := typeF; have q3 := mAss; have q4 := assFF; have q9 := voF
 obtain ⟨W1, hW1⟩ : ∃ W1, W1 = W.alloc (.cells #[.pointer (some ⟨8, 116, none⟩), .pointer (some a), .int .u64 150] 192) := ⟨_, rfl⟩
 have el := elemV1 a t W1 (by rw [hW1]; exact cell_alloc _ _ ha)
 have hlt : t.block < W.heap.size := cell_lt ht
 have st := set1 t ⟨W.heap.size + 1, 0, none⟩ e old (W1.alloc (.cells #[.pointer (some e)] 114)) (by rw [World.cell?_alloc_at _ _ _ _ (by simp [hW1])]; rfl) (by rw [hW1]; exact cell_alloc _ _ (cell_alloc _ _ ht))
  (by rw [hW1]; exact frozen_alloc (by simp; omega) (frozen_alloc hlt hf))
 rw [hW1] at el st
 clear hW1 ha ht hf hlt
 go_enter Tryz.func134, Tryz.ntmps134
 go_wp2
 refine wp_loop_rounds 1 ?_
 rw [rounds_succ]
 go_wp2
 go_ret
 exact ⟨rfl, rfl⟩

theorem as_pf_no (n : Int) (a t : Addr) (W : World) :
  Calls Tryz.prog 134 #[.iface 37 (.int .i64 n), .iface 116 (.pointer (some t)), .agg #[.pointer (some ⟨8, 116, none⟩), .pointer (some a), .int .u64 150], .iface 245 (.agg #[.pointer (some ⟨8, 114, none⟩)])] W
   fun ev w' => ev = .returned (.bool false) ∧ w' = W.alloc (.cells #[.pointer (some ⟨8, 116, none⟩), .pointer (some a), .int .u64 150] 192) := by
 have hTO := @run_callFunc_extern Tryz.prog 171 _ ReflectliteType.typeOf Tryz.func171 (by kernel_rfl) (by kernel_rfl) (by kernel_rfl) (by kernel_rfl)
 have hAss := @run_callFunc_extern Tryz.prog 277 _ (ReflectliteType.relation "AssignableTo" ReflectliteType.assignableTo) Tryz.func277 (by kernel_rfl) (by kernel_rfl) (by kernel_rfl) (by kernel_rfl)
 have q1 := typeE; have q3 := mAss; have q4 := assEF; have q5 := noAsE; have q6 := noUnwE; have q7 := noUnwsE
 go_enter Tryz.func134, Tryz.ntmps134
 go_wp2
 refine wp_loop_rounds 1 ?_
 rw [rounds_succ]
 go_wp2
 go_ret
 exact ⟨rfl, rfl⟩
end Go.Vs.YtbchceojmblkkaaGreatDoor.E
