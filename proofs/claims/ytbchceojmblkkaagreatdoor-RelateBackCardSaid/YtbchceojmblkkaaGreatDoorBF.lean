/- errors.As at the targets **Fault and *Errno: the walks, at chains of whatever depth. No conditions. -/
import Derived.Test.YtbchceojmblkkaaGreatDoorBE
import Derived.LoopTactic
import Derived.Lib.Hide
set_option linter.unusedVariables false
set_option linter.unusedSimpArgs false
set_option linter.unusedSimpArgs false
set_option linter.unusedVariables false
namespace Go.Vs.YtbchceojmblkkaaGreatDoor.E
open Go.Proofs Go.Proofs.YtbchceojmblkkaaGreatDoor Go.RowKit Go.Extern.Stop Go.Stop Go.Extern
set_option maxRecDepth 1000000
set_option pp.deepTerms true

/-- A chain of faults in a world, around a number. -/
def ErrV (W : World) (n : Int) : List Int → Value → Prop
  | [], E => E = .iface 37 (.int .i64 n)
  | p :: ps, E => ∃ pb po, E = .iface 114 (.pointer (some ⟨pb, po, none⟩)) ∧ ∃ E', W.cell? ⟨pb, po + 1, none⟩ = some E' ∧ ErrV W n ps E'
theorem ErrV.mono {W W' : World} {n : Int} (hk : ∀ a v, W.cell? a = some v → W'.cell? a = some v) : ∀ {ps : List Int} {E : Value}, ErrV W n ps E → ErrV W' n ps E
  | [], _, h => h
  | _ :: ps, _, ⟨pb, po, h1, E1, h2, h3⟩ => ⟨pb, po, h1, E1, hk _ _ h2, ErrV.mono hk h3⟩
theorem cell_alloc {w : World} {o : Obj} : ∀ a v, w.cell? a = some v → (w.alloc o).cell? a = some v := by
  intro a v h
  have hlt : a.block < w.heap.size := by
    rcases Nat.lt_or_ge a.block w.heap.size with h' | h'
    · exact h'
    · simp [World.cell?, Array.getElem?_eq_none h'] at h
  rw [World.cell?_alloc_lt _ _ a hlt]; exact h
theorem cell_lt {w : World} {a : Addr} {v : Value} (h : w.cell? a = some v) : a.block < w.heap.size := by
  rcases Nat.lt_or_ge a.block w.heap.size with h' | h'
  · exact h'
  · simp [World.cell?, Array.getElem?_eq_none h'] at h
theorem frozen_alloc {w : World} {o : Obj} {a : Addr} (h : a.block < w.heap.size) (hf : w.frozen? a = false) : (w.alloc o).frozen? a = false := by
  rw [World.frozen?_alloc_old _ _ a (Nat.ne_of_lt h)]; exact hf

/-- errors.as at **Fault, of a fault. -/
theorem as_pf (e a t : Addr) (old : Value) (W : World) (ha : W.cell? a = some (.pointer (some t))) (ht : W.cell? t = some old) (hf : W.frozen? t = false) :
    Calls Tryz.prog 134 #[.iface 114 (.pointer (some e)), .iface 116 (.pointer (some t)), .agg #[.pointer (some ⟨8, 116, none⟩), .pointer (some a), .int .u64 150], .iface 245 (.agg #[.pointer (some ⟨8, 114, none⟩)])] W
      fun ev w' => ev = .returned (.bool true) ∧ w' = ((W.alloc (.cells #[.pointer (some ⟨8, 116, none⟩), .pointer (some a), .int .u64 150] 192)).alloc (.cells #[.pointer (some e)] 114)).setCell t (.pointer (some e)) := by
  have hTO := @run_callFunc_extern Tryz.prog 171 _ ReflectliteType.typeOf Tryz.func171 (by kernel_rfl) (by kernel_rfl) (by kernel_rfl) (by kernel_rfl)
  have hAss := @run_callFunc_extern Tryz.prog 277 _ (ReflectliteType.relation "AssignableTo" ReflectliteType.assignableTo) Tryz.func277 (by kernel_rfl) (by kernel_rfl) (by kernel_rfl) (by kernel_rfl)
  have hVE := @run_callFunc_extern Tryz.prog 172 _ (ReflectliteValue.method (ReflectliteValue.valueError "reflectlite.Value.Elem" 0) ReflectliteValue.elem) Tryz.func172 (by kernel_rfl) (by kernel_rfl) (by kernel_rfl) (by kernel_rfl)
  have hVO := @run_callFunc_extern Tryz.prog 131 _ (fun args => ReflectliteValue.unpack (args.getD 0 (.tuple #[]))) Tryz.func131 (by kernel_rfl) (by kernel_rfl) (by kernel_rfl) (by kernel_rfl)
  have hVS := @run_callFunc_extern Tryz.prog 173 _ ReflectliteValue.set Tryz.func173 (by kernel_rfl) (by kernel_rfl) (by kernel_rfl) (by kernel_rfl)
  have q1 := typeF; have q3 := mAss; have q4 := assFF; have q9 := voF
  obtain ⟨W1, hW1⟩ : ∃ W1, W1 = W.alloc (.cells #[.pointer (some ⟨8, 116, none⟩), .pointer (some a), .int .u64 150] 192) := ⟨_, rfl⟩
  have el := elemV1 a t W1 (by rw [hW1]; exact cell_alloc _ _ ha)
  have hlt : t.block < W.heap.size := cell_lt ht
  have st := set1 t ⟨W.heap.size + 1, 0, none⟩ e old (W1.alloc (.cells #[.pointer (some e)] 114)) (by rw [World.cell?_alloc_at _ _ _ _ (by simp [hW1])]; rfl) (by rw [hW1]; exact cell_alloc _ _ (cell_alloc _ _ ht))
    (by rw [hW1]; exact frozen_alloc (by simp; omega) (frozen_alloc hlt hf))
  rw [hW1] at el st
  clear hW1 ha ht hf hlt
  go_enter Tryz.func134, Tryz.ntmps134
  go_wp2
  refine wp_loop_rounds 1 ?_
  rw [rounds_succ]
  go_wp2
  go_ret
  exact ⟨rfl, rfl⟩

end Go.Vs.YtbchceojmblkkaaGreatDoor.E
