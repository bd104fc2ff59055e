/- What the condition 'laid' of this seat's statements gives: the known globals. No conditions. -/
import Derived.Test.YthcljcjkfhiicaaGreatDoorBE
import Derived.Test.YthcljcjkfhiicaaGreatDoorRows
import Derived.LaidLaws
import Derived.LaidHandle
import Derived.Test.YthcljcjkfhiicaaGreatDoorBH
import Derived.Lib.LaidU8T
import Derived.PinnedBridge
import Derived.Test.YthcljcjkfhiicaaGreatDoorBD
import Derived.Test.YthcljcjkfhiicaaGreatDoorCards
import Derived.Test.YthcljcjkfhiicaaGreatDoorTie
import Derived.SevenTiedAt
set_option linter.unusedVariables false
set_option linter.unusedSimpArgs false
set_option linter.unusedSimpArgs false
set_option linter.unusedVariables false
set_option maxRecDepth 100000
namespace Go.Vs.YthcljcjkfhiicaaGreatDoor
open Go.Proofs Go.Proofs.YthcljcjkfhiicaaGreatDoor Go.RowKit
def La : List (String × DataW Unit) := [("unicode/utf8.acceptRanges", Rows.laid_unicode_utf8_acceptRanges), ("errors.errorType", Rows.laid_errors_errorType), ("unicode/utf8.first", Rows.laid_unicode_utf8_first)]
theorem et : Tryz.prog.globalNamed "errors.errorType" = some 0 := by kernel_rfl
theorem rt : (Tryz.prog.cutTypes.find? (·.1 == "internal/reflectlite.rtype")).map (·.2) = some 204 := by kernel_rfl
theorem oneRow : ((List.range Tryz.prog.types.size).filter fun t => Tryz.prog.rowNamed t [101, 114, 114, 111, 114]) = [25] := by kernel_rfl
theorem handle_of {W : World} (h : laidMetH Tryz.prog La W) : W.cell? ⟨0, 0, none⟩ = some (.iface 204 (.agg #[.pointer (some ⟨4, 25, none⟩)])) := by
  have h' : laidMet Tryz.prog [("unicode/utf8.acceptRanges", Rows.laid_unicode_utf8_acceptRanges), ("unicode/utf8.first", Rows.laid_unicode_utf8_first)] W ∧ handlesMet Tryz.prog [("errors.errorType", Rows.laid_errors_errorType)] W := h
  obtain ⟨name, u, ty, e1, e2, e3, e4, e5⟩ := h'.2 _ (List.mem_singleton.2 rfl)
  have en : name = [101, 114, 114, 111, 114] := (Option.some.inj e1).symm
  subst en
  obtain rfl := Option.some.inj (rt.symm.trans e2)
  have hm : ty ∈ (List.range Tryz.prog.types.size).filter fun t => Tryz.prog.rowNamed t [101, 114, 114, 111, 114] := List.mem_filter.2 ⟨List.mem_range.2 e3, e4⟩
  rw [oneRow] at hm
  obtain rfl := List.mem_singleton.1 hm
  have hh : typeHandle Tryz.prog 25 = .pointer (some ⟨4, 25, none⟩) := by kernel_rfl
  rw [hh] at e5
  simpa using World.var?_cell et e5 0
end Go.Vs.YthcljcjkfhiicaaGreatDoor
set_option linter.unusedSimpArgs false
set_option linter.unusedVariables false
set_option maxRecDepth 100000
namespace Go.Vs.YthcljcjkfhiicaaGreatDoor
open Go.Proofs Go.Proofs.YthcljcjkfhiicaaGreatDoor Go.RowKit Go.Lib
theorem repCells_of {w : World} {blk : Nat} (hb : blk < w.heap.size) : ∀ (l : List IV) (off : Nat), (∀ j x, l[j]? = some x → x.one = true ∧ ∃ v, w.cell? ⟨blk, off + j, none⟩ = some v ∧ Rep w (Old w) x v) → RepCells w (Old w) l blk off
  | [], _, _ => trivial
  | x :: r, off, h => by
    obtain ⟨h1, v, h2, h3⟩ := h 0 x rfl
    refine ⟨hb, h1, ⟨v, h2, h3⟩, repCells_of hb r (off + 1) fun j y hy => ?_⟩
    have := h (j + 1) y (by simpa using hy)
    rwa [show off + (j + 1) = off + 1 + j by omega] at this
theorem tabs_of {W : World} (h : laidMetH Tryz.prog La W) : Utf8Tabs 2 3 W := by
  have h' : laidMet Tryz.prog [("unicode/utf8.acceptRanges", Rows.laid_unicode_utf8_acceptRanges), ("unicode/utf8.first", Rows.laid_unicode_utf8_first)] W ∧ handlesMet Tryz.prog [("errors.errorType", Rows.laid_errors_errorType)] W := h
  have r1 : VarReads Tryz.prog W "unicode/utf8.first" firstData := by
    have := laidMet.reads h'.1 (n := "unicode/utf8.first") (d := Rows.laid_unicode_utf8_first) (by simp)
    have e : Rows.laid_unicode_utf8_first = firstData := Pinned.utf8First_eq
    rwa [e] at this
  have r2 : VarReads Tryz.prog W "unicode/utf8.acceptRanges" acceptData := by
    have := laidMet.reads h'.1 (n := "unicode/utf8.acceptRanges") (d := Rows.laid_unicode_utf8_acceptRanges) (by simp)
    have e : Rows.laid_unicode_utf8_acceptRanges = acceptData := by kernel_rfl
    rwa [e] at this
  exact utf8Tabs_of_readsT (ρ := Tryz.lays197_ren) ⟨by kernel_rfl, by kernel_rfl, by kernel_rfl, by kernel_rfl⟩ ⟨by kernel_rfl, by kernel_rfl, by kernel_rfl, by kernel_rfl, by kernel_rfl, by kernel_rfl, by kernel_rfl⟩ r1 r2
end Go.Vs.YthcljcjkfhiicaaGreatDoor
set_option linter.unusedSimpArgs false
set_option linter.unusedVariables false
set_option maxRecDepth 100000
namespace Go.Vs.YthcljcjkfhiicaaGreatDoor
open Go.Proofs Go.Proofs.YthcljcjkfhiicaaGreatDoor Go.RowKit Go.Lib
theorem cell_blk {w : World} {b o : Nat} {v : Value} (h : w.cell? ⟨b, o, none⟩ = some v) : b < w.heap.size := (cell_old h).1
theorem zget {l : List Int} {j : Nat} {x : IV} (h : (l.map (IV.int .u8 ·))[j]? = some x) : j < l.length ∧ x = .int .u8 (l.getD j 0) := by
  rw [List.getElem?_map, Option.map_eq_some_iff] at h
  obtain ⟨z, hz, rfl⟩ := h
  exact ⟨(List.getElem?_eq_some_iff.1 hz).1, by rw [List.getD_eq_getElem?_getD, hz]; rfl⟩
theorem hgl {W : World} (h : laidMetH Tryz.prog La W) : ∀ p, p ∈ G → RepCells W (Old W) p.2 p.1 0 := by
  have hh := handle_of h
  obtain ⟨h1, h2⟩ := tabs_of h
  intro p hp
  simp only [G, List.mem_cons, List.not_mem_nil, or_false] at hp
  rcases hp with rfl | rfl | rfl
  · exact repCells_of (cell_blk hh) _ _ fun j x hx => by
      cases j with
      | zero => simp at hx; subst hx; exact ⟨rfl, _, hh, rfl⟩
      | succ j => simp at hx
  · refine repCells_of (cell_blk (h1 0 (by omega))) _ _ fun j x hx => ?_
    obtain ⟨hj, rfl⟩ := zget hx
    rw [first_len] at hj
    have ht := List.all_eq_true.1 first_tab j (List.mem_range.2 hj)
    rw [beq_iff_eq] at ht
    exact ⟨rfl, _, by rw [Nat.zero_add]; exact h1 j hj, by rw [ht]; rfl⟩
  · refine repCells_of (cell_blk (h2 0 (by omega)).1) _ _ fun j x hx => ?_
    obtain ⟨hj, rfl⟩ := zget hx
    rw [acc_len] at hj
    have hi : j / 2 < 16 := by omega
    have ht := List.all_eq_true.1 acc_tab (j / 2) (List.mem_range.2 hi)
    rw [Bool.and_eq_true, beq_iff_eq, beq_iff_eq] at ht
    obtain ⟨c1, c2⟩ := h2 (j / 2) hi
    have hj2 : j = 2 * (j / 2) ∨ j = 2 * (j / 2) + 1 := by omega
    obtain ⟨i, hi'⟩ : ∃ i, j / 2 = i := ⟨_, rfl⟩
    rw [hi'] at ht c1 c2 hj2
    rcases hj2 with e | e
    · refine ⟨rfl, _, by rw [Nat.zero_add, e]; exact c1, ?_⟩
      rw [e, ht.1]; rfl
    · refine ⟨rfl, _, by rw [Nat.zero_add, e]; exact c2, ?_⟩
      rw [e, ht.2]; rfl
end Go.Vs.YthcljcjkfhiicaaGreatDoor
set_option linter.unusedSimpArgs false
set_option linter.unusedVariables false
set_option maxRecDepth 100000
namespace Go.Vs.YthcljcjkfhiicaaGreatDoor
open Go.Proofs Go.Proofs.YthcljcjkfhiicaaGreatDoor Go.RowKit
noncomputable def laidWorld (os : Os) : World :=
  let w0 := World.holding Tryz.prog os ⟨#[], #[], []⟩
  { w0 with heap := ((w0.heap.modify 0 fun
      | .cells _ t frozen => .cells #[.iface 204 (.agg #[.pointer (some ⟨4, 25, none⟩)])] t frozen
      | o => o).modify 2 fun
      | .cells _ t frozen => .cells (firstZ.map (Value.int .u8 ·)).toArray t frozen
      | o => o).modify 3 fun
      | .cells _ t frozen => .cells (accZ.map (Value.int .u8 ·)).toArray t frozen
      | o => o }
theorem laidWorld_met (os : Os) (args : Array Value) : laidMetH Tryz.prog La ((laidWorld os).forCall (fun _ _ => 0) ⟨#[], args, []⟩).memory :=
  laidMetH_of_parts (laidMet_of_run' 8 (by kernel_rfl) (by kernel_rfl)) (by kernel_rfl)
theorem own_knob : ownKnob Tryz.prog.godebug = none := by kernel_rfl
theorem laid_out : laidOutB Tryz.prog = true := by kernel_rfl
end Go.Vs.YthcljcjkfhiicaaGreatDoor
