/- Value semantics, part 23: what a row's arguments are, read as immutable values. No conditions. -/
import Derived.Test.YtjfleklkloohgaaVs22
import Derived.ChangeArms
import Derived.OpenShut
import Derived.ChangeShapes
import Derived.ChangeSame
import Derived.Carry
import Derived.Below
import Derived.RowKit
import Derived.ProofKit
set_option linter.unusedVariables false
set_option linter.unusedSimpArgs false
namespace Go.Vs
open Go.ChangeShapes Go.WideShapes Go.RowKit

/-- The shape of a type. -/
inductive Sc where
  | int (k : IntKind)
  | bool
  | str
  | struct (fs : List Sc)
  | slice (e : Sc)
  | arr (n : Nat) (e : Sc)

mutual
def Sc.size : Sc → Nat
  | .int _ => 1
  | .bool => 1
  | .str => 1
  | .struct fs => Sc.sizes fs
  | .slice _ => 1
  | .arr n e => n * e.size
def Sc.sizes : List Sc → Nat
  | [] => 0
  | s :: r => s.size + Sc.sizes r
end

mutual
def scOk (P : Program) : Sc → TypeId → Bool
  | .int k, t => match P.underlying t with
    | some (.int k') => k' == k
    | _ => false
  | .bool, t => match P.underlying t with
    | some .bool => true
    | _ => false
  | .str, t => match P.underlying t with
    | some .string => true
    | _ => false
  | .struct scs, t => match P.underlying t with
    | some (.struct fs) => fieldsOk P scs fs.toList 0 && P.cellsOf t == Sc.sizes scs
    | _ => false
  | .slice e, t => match P.underlying t with
    | some (.slice te) => scOk P e te && P.cellsOf te == e.size && decide (0 < e.size)
    | _ => false
  | .arr n e, t => match P.underlying t with
    | some (.array m te) => m == n && scOk P e te && P.cellsOf te == e.size && P.cellsOf t == n * e.size
    | _ => false
def fieldsOk (P : Program) : List Sc → List Field → Nat → Bool
  | [], [], _ => true
  | s :: r, f :: fs, off => f.offset == off && P.cellsOf f.type == s.size && scOk P s f.type && fieldsOk P r fs (off + s.size)
  | _, _, _ => false
end

mutual
/-- The cells of a value of the shape. -/
def Sh : Sc → List IV → Prop
  | .int k, l => ∃ n, l = [.int k n] ∧ (Lit.int k n).wf = true
  | .bool, l => ∃ b, l = [.bool b]
  | .str, l => ∃ s, l = [.str s] ∧ s.length ≤ maxLen
  | .struct scs, l => Shs scs l
  | .slice e, l => ∃ rows, l = [.slice rows] ∧ rows.length ≤ maxLen ∧ ∀ row ∈ rows, Sh e row
  | .arr n e, l => ∃ parts : List (List IV), l = parts.flatten ∧ parts.length = n ∧ ∀ p ∈ parts, Sh e p
def Shs : List Sc → List IV → Prop
  | [], l => l = []
  | s :: r, l => ∃ a b, l = a ++ b ∧ Sh s a ∧ Shs r b
end

def Old (w : World) : Stab := fun b _ => b < w.heap.size

theorem cell_old {w : World} {a : Addr} {v : Value} (h : w.cell? a = some v) : a.block < w.heap.size ∧ a.spot = none := by
  unfold World.cell? at h
  split at h
  · next c t fr hh =>
    split at h
    · simp at h
    · next hs =>
      refine ⟨?_, by simpa using hs⟩
      exact (Array.getElem?_eq_some_iff.1 hh).1
  · simp at h

theorem repCells_of {w : World} : ∀ {ivs : List IV} {cs : List Value} {blk off : Nat}, RepOnes w (Old w) ivs cs → (∀ j, j < cs.length → w.cell? ⟨blk, off + j, none⟩ = cs[j]?) → RepCells w (Old w) ivs blk off
  | [], _, _, _, _, _ => by simp [RepCells]
  | x :: r, _, blk, off, ⟨v, vs, h1, h2, h3, h4⟩, hc => by
    subst h1
    have c0 := hc 0 (by simp)
    simp only [Nat.add_zero, List.getElem?_cons_zero] at c0
    refine ⟨(cell_old c0).1, h2, ⟨v, c0, h3⟩, repCells_of h4 (fun j hj => ?_)⟩
    have := hc (j + 1) (by simp; omega)
    rw [List.getElem?_cons_succ] at this
    rw [← this]
    congr 2
    omega

theorem cells_get {w : World} {base : Nat} {a : Addr} {n : Nat} {cs : List Value} (h : w.cells? base a n = some cs) : cs.length = n ∧ ∀ j, j < n → w.cell? (a.add j) = cs[j]? := by
  unfold World.cells? at h
  split at h
  · refine ⟨by simpa using mapM_some_length h, fun j hj => ?_⟩
    exact mapM_some_get h j j (by simp [hj])
  · simp at h

theorem rows_of {w : World} {e : Sc} {s blk off : Nat} : ∀ (n start : Nat), (∀ i, i < n → ∃ row, Sh e row ∧ row.length = s ∧ RepCells w (Old w) row blk (off + (start + i) * s)) →
    ∃ rows, rows.length = n ∧ (∀ row ∈ rows, Sh e row) ∧ RepRows w (Old w) rows s blk (off + start * s)
  | 0, start, _ => ⟨[], rfl, by simp, by simp [RepRows]⟩
  | n + 1, start, h => by
    obtain ⟨row, h1, h2, h3⟩ := h 0 (by omega)
    obtain ⟨rows, k1, k2, k3⟩ := rows_of n (start + 1) (fun i hi => by
      obtain ⟨row, q1, q2, q3⟩ := h (i + 1) (by omega)
      refine ⟨row, q1, q2, ?_⟩
      rw [show start + 1 + i = start + (i + 1) by omega]
      exact q3)
    refine ⟨row :: rows, by simp [k1], ?_, ?_⟩
    · intro r hr
      rcases List.mem_cons.1 hr with rfl | hr
      · exact h1
      · exact k2 r hr
    · refine ⟨h2, by simpa using h3, ?_⟩
      rw [Nat.add_mul, Nat.one_mul, ← Nat.add_assoc] at k3
      exact k3


section
variable {H : Type} {enc : TypeId × Value → H} {P : Program} {w : World} {base : Nat} {spare : Nat → Bool} {held : Bool}

theorem add_spot {a : Addr} (h : a.spot = none) (i : Nat) : a.add i = ⟨a.block, a.off + i, none⟩ := by
  obtain ⟨b, o, s⟩ := a
  subst h
  unfold Addr.add
  split
  · next hi => simp [hi]
  · rfl

mutual
/-- WHAT IS READ AS DATA IS READ AS AN IMMUTABLE VALUE. -/
theorem trod_rep : ∀ (sc : Sc) (fuel : Nat) (t : TypeId) (cs : List Value) (x : DataW H × List MemPlace), scOk P sc t = true → DataW.trod enc P w base spare held fuel t cs = some x → ∃ ivs, Sh sc ivs ∧ RepOnes w (Old w) ivs cs ∧ ivs.length = sc.size
  | .int k, fuel, t, cs, x, hs, h => by
    simp only [scOk] at hs
    split at hs
    · next k' ht =>
      rw [beq_iff_eq] at hs; subst hs
      obtain ⟨n, rfl, _, hw⟩ := DataW.trod_int ht h
      exact ⟨[.int _ n], ⟨n, rfl, hw⟩, ⟨_, _, rfl, rfl, rfl, rfl⟩, rfl⟩
    · simp at hs
  | .bool, fuel, t, cs, x, hs, h => by
    simp only [scOk] at hs
    split at hs
    · next ht =>
      obtain ⟨n, rfl, _⟩ := DataW.trod_bool ht h
      exact ⟨[.bool n], ⟨n, rfl⟩, ⟨_, _, rfl, rfl, rfl, rfl⟩, rfl⟩
    · simp at hs
  | .str, fuel, t, cs, x, hs, h => by
    simp only [scOk] at hs
    split at hs
    · next ht =>
      obtain ⟨n, rfl, _, hl⟩ := DataW.trod_string ht h
      exact ⟨[.str n.data.toList], ⟨_, rfl, by simpa using hl⟩, ⟨_, _, rfl, rfl, rfl, rfl⟩, rfl⟩
    · simp at hs
  | .struct scs, fuel, t, cs, x, hs, h => by
    simp only [scOk] at hs
    split at hs
    · next fs ht =>
      simp only [Bool.and_eq_true, beq_iff_eq] at hs
      obtain ⟨xs, n, _, _, hl, hx, hf⟩ := DataW.trod_struct ht h
      obtain ⟨ivs, h1, h2, h3⟩ := fields_rep scs n fs.toList 0 cs (by omega) hs.1 (fun i f hi => by
        have hi' : fs[i]? = some f := by simpa using hi
        have := hf i f hi'
        have hlt : i < fs.size := (Array.getElem?_eq_some_iff.1 hi').1
        rw [List.getElem?_eq_getElem (by omega)] at this
        exact ⟨_, this⟩)
      rw [List.drop_zero, List.take_of_length_le (by omega)] at h2
      exact ⟨ivs, h1, h2, h3⟩
    · simp at hs
  | .slice e, fuel, t, cs, x, hs, h => by
    simp only [scOk] at hs
    split at hs
    · next te ht =>
      simp only [Bool.and_eq_true, beq_iff_eq, decide_eq_true_eq] at hs
      obtain ⟨⟨hs1, hs2⟩, hs3⟩ := hs
      rcases DataW.trod_slice ht h with ⟨rfl, _⟩ | ⟨a, len, cap, elems, rest, n, _, rfl, _, _, hlc, hcap, hel, hE, _, _⟩
      · exact ⟨[.slice []], ⟨[], rfl, by simp, by simp⟩, ⟨_, _, rfl, rfl, ⟨none, 0, rfl, by simp, by simp⟩, rfl⟩, rfl⟩
      · have hspot : 0 < len → a.spot = none := by
          intro hpos
          have hi' := hE 0 hpos
          rw [List.getElem?_eq_getElem (by omega)] at hi'
          simp only [Option.bind_eq_some_iff] at hi'
          obtain ⟨cs', hc1, _⟩ := hi'
          have hg := cells_get hc1
          have h0 := hg.2 0 (by omega)
          cases hc : cs'[0]? with
          | none => rw [List.getElem?_eq_none_iff] at hc; omega
          | some v =>
            rw [hc] at h0
            simpa [Addr.add] using (cell_old h0).2
        have hrow : ∀ i, i < len → ∃ row, Sh e row ∧ row.length = e.size ∧ RepCells w (Old w) row a.block (a.off + (0 + i) * e.size) := by
          intro i hi
          have hi' := hE i hi
          rw [List.getElem?_eq_getElem (by omega)] at hi'
          simp only [Option.bind_eq_some_iff] at hi'
          obtain ⟨cs', hc1, hc2⟩ := hi'
          obtain ⟨ivs, q1, q2, q3⟩ := trod_rep e n te cs' _ hs1 hc2
          have hg := cells_get hc1
          rw [hs2] at hg
          refine ⟨ivs, q1, q3, ?_⟩
          refine repCells_of q2 (fun j hj => ?_)
          rw [← hg.2 j (by omega), add_spot (hspot (by omega)), add_spot rfl]
          simp
        obtain ⟨rows, k1, k2, k3⟩ := rows_of (e := e) (s := e.size) (blk := a.block) (off := a.off) len 0 (fun i hi => by
          obtain ⟨row, q1, q2, q3⟩ := hrow i hi
          exact ⟨row, q1, q2, q3⟩)
        refine ⟨[.slice rows], ⟨rows, rfl, by omega, k2⟩, ⟨_, _, rfl, rfl, ⟨some a, cap, by rw [k1], by omega, fun hne => ?_⟩, rfl⟩, rfl⟩
        have hpos : 0 < len := by
          rw [← k1]; exact List.length_pos_iff.2 hne
        refine ⟨a.block, a.off, e.size, ?_, by simpa using k3⟩
        have hsp := hspot hpos
        obtain ⟨ab, ao, asp⟩ := a
        simp only at hsp
        rw [hsp]
    · simp at hs
  | .arr n e, fuel, t, cs, x, hs, h => by
    simp only [scOk] at hs
    split at hs
    · next m te ht =>
      simp only [Bool.and_eq_true, beq_iff_eq] at hs
      obtain ⟨⟨⟨rfl, hs1⟩, hs2⟩, hs3⟩ := hs
      obtain ⟨xs, f, _, _, hl, hx, hf⟩ := DataW.trod_array ht h
      have gen : ∀ k, k ≤ m → ∃ parts : List (List IV), parts.length = k ∧ (∀ p ∈ parts, Sh e p) ∧ RepOnes w (Old w) parts.flatten (cs.take (k * e.size)) ∧ parts.flatten.length = k * e.size := by
        intro k
        induction k with
        | zero => intro _; exact ⟨[], rfl, by simp, by simp [RepOnes], by simp⟩
        | succ k ih =>
          intro hk
          obtain ⟨parts, p1, p2, p3, p4⟩ := ih (by omega)
          have hk' := hf k (by omega)
          rw [List.getElem?_eq_getElem (by omega), hs2] at hk'
          obtain ⟨ivs, q1, q2, q3⟩ := trod_rep e f te _ _ hs1 hk'
          refine ⟨parts ++ [ivs], by simp [p1], ?_, ?_, ?_⟩
          · intro p hp
            rcases List.mem_append.1 hp with hp | hp
            · exact p2 p hp
            · rw [List.mem_singleton.1 hp]; exact q1
          · have := RepOnes.append p3 q2
            rw [← List.take_add] at this
            simpa [Nat.add_mul] using this
          · simp [p4, q3, Nat.add_mul]
      obtain ⟨parts, p1, p2, p3, p4⟩ := gen m (Nat.le_refl _)
      rw [List.take_of_length_le (by omega)] at p3
      exact ⟨parts.flatten, ⟨parts, rfl, p1, p2⟩, p3, p4⟩
    · simp at hs
theorem fields_rep : ∀ (scs : List Sc) (fuel : Nat) (fs : List Field) (off : Nat) (cs : List Value), off + Sc.sizes scs ≤ cs.length → fieldsOk P scs fs off = true →
    (∀ (i : Nat) (f : Field), fs[i]? = some f → ∃ y, DataW.trod enc P w base spare held fuel f.type ((cs.drop f.offset).take (P.cellsOf f.type)) = some y) →
    ∃ ivs, Shs scs ivs ∧ RepOnes w (Old w) ivs ((cs.drop off).take (Sc.sizes scs)) ∧ ivs.length = Sc.sizes scs
  | [], _, [], off, cs, _, _, _ => ⟨[], rfl, by simp [RepOnes, Sc.sizes], rfl⟩
  | [], _, _ :: _, _, _, _, h, _ => by simp [fieldsOk] at h
  | _ :: _, _, [], _, _, _, h, _ => by simp [fieldsOk] at h
  | s :: r, fuel, f :: fs, off, cs, hle, h, hf => by
    simp only [fieldsOk, Bool.and_eq_true, beq_iff_eq] at h
    obtain ⟨⟨⟨h1, h2⟩, h3⟩, h4⟩ := h
    simp only [Sc.sizes] at hle ⊢
    obtain ⟨y, hy⟩ := hf 0 f rfl
    rw [h1, h2] at hy
    obtain ⟨a, a1, a2, a3⟩ := trod_rep s fuel _ _ _ h3 hy
    obtain ⟨b, b1, b2, b3⟩ := fields_rep r fuel fs (off + s.size) cs (by omega) h4 (fun i g hg => hf (i + 1) g hg)
    refine ⟨a ++ b, ⟨a, b, rfl, a1, b1⟩, ?_, by simp [a3, b3]⟩
    have := RepOnes.append a2 b2
    rw [← List.drop_drop, ← List.take_add] at this
    exact this
end
end
end Go.Vs
