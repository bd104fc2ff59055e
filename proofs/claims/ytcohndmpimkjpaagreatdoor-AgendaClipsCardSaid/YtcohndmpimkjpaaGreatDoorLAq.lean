/- The known globals from the condition 'laid'. No conditions. -/
import Derived.Test.YtcohndmpimkjpaaGreatDoorBIq
import Derived.Test.YtcohndmpimkjpaaGreatDoorBEq
import Derived.Lib.LaidTab
import Derived.Lib.LaidU8T
import Derived.PinnedBridge
import Derived.LaidHandle
import Derived.Test.YtcohndmpimkjpaaGreatDoorBJq
import Derived.Test.YtcohndmpimkjpaaGreatDoorCards
import Derived.Test.YtcohndmpimkjpaaGreatDoorTie
import Derived.SevenTiedAt
set_option linter.unusedVariables false
set_option linter.unusedSimpArgs false
set_option linter.unusedSimpArgs false
set_option linter.unusedVariables false
set_option maxRecDepth 100000
namespace Go.Vs.YtcohndmpimkjpaaGreatDoor
open Go.Proofs Go.Proofs.YtcohndmpimkjpaaGreatDoor Go.RowKit Go.Lib
theorem repCells_of {w : World} {blk : Nat} (hb : blk < w.heap.size) : ∀ (l : List IV) (off : Nat), (∀ j x, l[j]? = some x → x.one = true ∧ ∃ v, w.cell? ⟨blk, off + j, none⟩ = some v ∧ Rep w (Old w) x v) → RepCells w (Old w) l blk off
  | [], _, _ => trivial
  | x :: r, off, h => by
    obtain ⟨h1, v, h2, h3⟩ := h 0 x rfl
    refine ⟨hb, h1, ⟨v, h2, h3⟩, repCells_of hb r (off + 1) fun j y hy => ?_⟩
    have := h (j + 1) y (by simpa using hy)
    rwa [show off + (j + 1) = off + 1 + j by omega] at this
theorem tabIs_of_reads {P : Program} {W : World} {name : String} {k : IntKind} {zs : List Int} {g : Nat} {t e : TypeId} {n : Nat}
    (hg : P.globalNamed name = some g) (hty : (P.globals[g]?).map (·.type) = some t) (ht : P.underlying t = some (.array n e)) (he : P.underlying e = some (.int k)) (hce : P.cellsOf e = 1) (hct : P.cellsOf t = n)
    (h : VarReads P W name (tabData k zs)) : TabIs P W name k zs := by
  obtain ⟨g', t', cs, fuel, p, hg', ht', hvar, hd⟩ := h
  obtain rfl := Option.some.inj (hg.symm.trans hg')
  obtain rfl := Option.some.inj (hty.symm.trans ht')
  unfold TabIs
  rw [hvar, ← cells_of_tab ht he hce hct hd]
theorem shape_of_var {P : Program} {W : World} {name : String} {g : Nat} {cs : Array Value} (hg : P.globalNamed name = some g) (h : W.var? P name = some cs) : ∃ t, W.shape? g = some (t, cs.size) := by
  unfold World.var? at h
  rw [hg] at h
  simp only [Option.bind_some] at h
  split at h
  · next cs' e fr hh =>
    obtain rfl := Option.some.inj h
    exact ⟨e, by simp only [World.shape?, hh]⟩
  · cases h
theorem gl_of_tab {P : Program} {W : World} {name : String} {k : IntKind} {zs : List Int} {g : Nat} (hg : P.globalNamed name = some g) (h : TabIs P W name k zs) : RepGl W (Old W) (g, zs.map (.int k ·)) := by
  refine ⟨repCells_ints fun i hi => by simpa using TabIs.cell h hg i hi, ?_⟩
  obtain ⟨t, ht⟩ := shape_of_var hg h
  exact ⟨t, by simpa using ht⟩
def isArrD : Option TypeDesc → Bool
  | some (.array _ _) => true
  | _ => false
theorem len_of_reads {P : Program} {W : World} {name : String} {d : DataW Unit} {g : Nat} {t : TypeId} {m : Nat}
    (hg : P.globalNamed name = some g) (hty : (P.globals[g]?).map (·.type) = some t) (ha : isArrD (P.underlying t) = true) (hct : P.cellsOf t = m) (h : VarReads P W name d) : ∃ cs, W.var? P name = some cs ∧ cs.size = m := by
  obtain ⟨g', t', cs, fuel, p, hg', ht', hvar, hd⟩ := h
  obtain rfl := Option.some.inj (hg.symm.trans hg')
  obtain rfl := Option.some.inj (hty.symm.trans ht')
  refine ⟨cs, hvar, ?_⟩
  cases fuel with
  | zero => simp [DataW.trod] at hd
  | succ fuel =>
    cases ht : P.underlying t with
    | none => rw [ht] at ha; cases ha
    | some td =>
      cases td with
      | array n e =>
        simp only [DataW.trod, ht, hct] at hd
        split at hd
        · next hl => simpa using hl
        · cases hd
      | _ => rw [ht] at ha; cases ha
/-- The condition's parts. -/
theorem reads_of {P : Program} {W : World} {l : List (String × DataW Unit)} (h : laidMet P l W) {n : String} {d : DataW Unit} (hm : (n, d) ∈ l) : VarReads P W n d := laidMet.reads h hm
theorem oneRow : ((List.range Tryz.prog.types.size).filter fun t => Tryz.prog.rowNamed t [101, 114, 114, 111, 114]) = [37] := by kernel_rfl
theorem rtN : (Tryz.prog.cutTypes.find? (·.1 == "internal/reflectlite.rtype")).map (·.2) = some 296 := by kernel_rfl
theorem gl_err {W : World} (h : handlesMet Tryz.prog [("errors.errorType", Rows.laid_errors_errorType)] W) : RepGl W (Old W) (0, [.handle 296 5 37]) := by
  have et : Tryz.prog.globalNamed "errors.errorType" = some 0 := by kernel_rfl
  obtain ⟨name, u, ty, e1, e2, e3, e4, e5⟩ := h _ (List.mem_singleton.2 rfl)
  have en : name = [101, 114, 114, 111, 114] := (Option.some.inj e1).symm
  subst en
  obtain rfl := Option.some.inj (rtN.symm.trans e2)
  have hm : ty ∈ (List.range Tryz.prog.types.size).filter fun t => Tryz.prog.rowNamed t [101, 114, 114, 111, 114] := List.mem_filter.2 ⟨List.mem_range.2 e3, e4⟩
  rw [oneRow] at hm
  obtain rfl := List.mem_singleton.1 hm
  have hh : typeHandle Tryz.prog 37 = .pointer (some ⟨5, 37, none⟩) := by kernel_rfl
  rw [hh] at e5
  have hc : W.cell? ⟨0, 0, none⟩ = some (.iface 296 (.agg #[.pointer (some ⟨5, 37, none⟩)])) := by simpa using World.var?_cell et e5 0
  refine ⟨repCells_of (cell_old hc).1 _ _ fun j x hx => by
      cases j with
      | zero => simp at hx; subst hx; exact ⟨rfl, _, hc, rfl⟩
      | succ j => simp at hx, ?_⟩
  obtain ⟨t, ht⟩ := shape_of_var et e5
  exact ⟨t, by simpa using ht⟩
theorem zget {l : List Int} {j : Nat} {x : IV} (h : (l.map (IV.int .u8 ·))[j]? = some x) : j < l.length ∧ x = .int .u8 (l.getD j 0) := by
  rw [List.getElem?_map, Option.map_eq_some_iff] at h
  obtain ⟨z, hz, rfl⟩ := h
  exact ⟨(List.getElem?_eq_some_iff.1 hz).1, by rw [List.getD_eq_getElem?_getD, hz]; rfl⟩
theorem gl_utf {W : World} (q1 : VarReads Tryz.prog W "unicode/utf8.first" Rows.laid_unicode_utf8_first) (q2 : VarReads Tryz.prog W "unicode/utf8.acceptRanges" Rows.laid_unicode_utf8_acceptRanges) : RepGl W (Old W) (2, firstZ.map (.int .u8 ·)) ∧ RepGl W (Old W) (3, accZ.map (.int .u8 ·)) := by
  have r1 : VarReads Tryz.prog W "unicode/utf8.first" firstData := by
    have e : Rows.laid_unicode_utf8_first = firstData := Pinned.utf8First_eq
    rwa [e] at q1
  have r2 : VarReads Tryz.prog W "unicode/utf8.acceptRanges" acceptData := by
    have e : Rows.laid_unicode_utf8_acceptRanges = acceptData := by kernel_rfl
    rwa [e] at q2
  obtain ⟨h1, h2⟩ := utf8Tabs_of_readsT (ρ := Tryz.lays197_ren) ⟨by kernel_rfl, by kernel_rfl, by kernel_rfl, by kernel_rfl⟩ ⟨by kernel_rfl, by kernel_rfl, by kernel_rfl, by kernel_rfl, by kernel_rfl, by kernel_rfl, by kernel_rfl⟩ r1 r2
  constructor
  · refine ⟨repCells_of (cell_old (h1 0 (by omega))).1 _ _ fun j x hx => ?_, ?_⟩
    · obtain ⟨hj, rfl⟩ := zget hx
      rw [first_len] at hj
      have ht := List.all_eq_true.1 first_tab j (List.mem_range.2 hj)
      rw [beq_iff_eq] at ht
      exact ⟨rfl, _, by rw [Nat.zero_add]; exact h1 j hj, by rw [ht]; rfl⟩
    · obtain ⟨cs, h3, h4⟩ := len_of_reads (g := 2) (t := 383) (m := 256) (by kernel_rfl) (by kernel_rfl) (by kernel_rfl) (by kernel_rfl) r1
      obtain ⟨t, ht⟩ := shape_of_var (g := 2) (by kernel_rfl) h3
      exact ⟨t, by rw [ht, h4]; simp [first_len]⟩
  · refine ⟨repCells_of (cell_old (h2 0 (by omega)).1).1 _ _ fun j x hx => ?_, ?_⟩
    · obtain ⟨hj, rfl⟩ := zget hx
      rw [acc_len] at hj
      have hi : j / 2 < 16 := by omega
      have ht := List.all_eq_true.1 acc_tab (j / 2) (List.mem_range.2 hi)
      rw [Bool.and_eq_true, beq_iff_eq, beq_iff_eq] at ht
      obtain ⟨c1, c2⟩ := h2 (j / 2) hi
      have hj2 : j = 2 * (j / 2) ∨ j = 2 * (j / 2) + 1 := by omega
      obtain ⟨i, hi'⟩ : ∃ i, j / 2 = i := ⟨_, rfl⟩
      rw [hi'] at ht c1 c2 hj2
      rcases hj2 with e | e
      · refine ⟨rfl, _, by rw [Nat.zero_add, e]; exact c1, ?_⟩
        rw [e, ht.1]; rfl
      · refine ⟨rfl, _, by rw [Nat.zero_add, e]; exact c2, ?_⟩
        rw [e, ht.2]; rfl
    · obtain ⟨cs, h3, h4⟩ := len_of_reads (g := 3) (t := 386) (m := 32) (by kernel_rfl) (by kernel_rfl) (by kernel_rfl) (by kernel_rfl) r2
      obtain ⟨t, ht⟩ := shape_of_var (g := 3) (by kernel_rfl) h3
      exact ⟨t, by rw [ht, h4]; simp [acc_len]⟩
end Go.Vs.YtcohndmpimkjpaaGreatDoor
set_option linter.unusedSimpArgs false
set_option linter.unusedVariables false
set_option maxRecDepth 100000
namespace Go.Vs.YtcohndmpimkjpaaGreatDoor
open Go.Proofs Go.Proofs.YtcohndmpimkjpaaGreatDoor Go.RowKit Go.Lib
def LaR : List (String × DataW Unit) := [("errand/civil.before", Rows.laid_errand_civil_before), ("unicode/utf8.acceptRanges", Rows.laid_unicode_utf8_acceptRanges), ("errors.errorType", Rows.laid_errors_errorType), ("unicode/utf8.first", Rows.laid_unicode_utf8_first)]
theorem gl_bef {W : World} (q : VarReads Tryz.prog W "errand/civil.before" Rows.laid_errand_civil_before) : RepGl W (Old W) (4, befZ.map (.int .i64 ·)) := by
  have e : (Rows.laid_errand_civil_before : DataW Unit) = tabData .i64 befZ := by kernel_rfl
  rw [e] at q
  have hg : Tryz.prog.globalNamed "errand/civil.before" = some 4 := by kernel_rfl
  exact gl_of_tab hg (tabIs_of_reads (t := 411) (e := 3) (n := 13) hg (by kernel_rfl) (by kernel_rfl) (by kernel_rfl) (by kernel_rfl) (by kernel_rfl) q)
theorem hglR {W : World} (h : laidMetH Tryz.prog LaR W) : ∀ p, p ∈ G2 → RepGl W (Old W) p := by
  have h' : laidMet Tryz.prog [("errand/civil.before", Rows.laid_errand_civil_before), ("unicode/utf8.acceptRanges", Rows.laid_unicode_utf8_acceptRanges), ("unicode/utf8.first", Rows.laid_unicode_utf8_first)] W ∧ handlesMet Tryz.prog [("errors.errorType", Rows.laid_errors_errorType)] W := h
  obtain ⟨u1, u2⟩ := gl_utf (reads_of h'.1 (by simp)) (reads_of h'.1 (by simp))
  have e1 := gl_err h'.2
  have b1 := gl_bef (reads_of h'.1 (by simp))
  intro p hp
  simp only [G2, G, List.mem_cons, List.not_mem_nil, or_false] at hp
  rcases hp with rfl | rfl | rfl | rfl
  · exact b1
  · exact e1
  · exact u1
  · exact u2
end Go.Vs.YtcohndmpimkjpaaGreatDoor
set_option linter.unusedSimpArgs false
set_option linter.unusedVariables false
set_option maxRecDepth 100000
namespace Go.Vs.YtcohndmpimkjpaaGreatDoor
open Go.Proofs Go.Proofs.YtcohndmpimkjpaaGreatDoor Go.RowKit
noncomputable def laidWorldR (os : Os) : World :=
  let w0 := World.holding Tryz.prog os ⟨#[], #[], []⟩
  { w0 with heap := (((w0.heap.modify 0 fun
      | .cells _ t frozen => .cells #[.iface 296 (.agg #[.pointer (some ⟨5, 37, none⟩)])] t frozen
      | o => o).modify 2 fun
      | .cells _ t frozen => .cells (firstZ.map (Value.int .u8 ·)).toArray t frozen
      | o => o).modify 3 fun
      | .cells _ t frozen => .cells (accZ.map (Value.int .u8 ·)).toArray t frozen
      | o => o).modify 4 fun
      | .cells _ t frozen => .cells (befZ.map (Value.int .i64 ·)).toArray t frozen
      | o => o }
theorem laidWorldR_met (os : Os) (args : Array Value) : laidMetH Tryz.prog LaR ((laidWorldR os).forCall (fun _ _ => 0) ⟨#[], args, []⟩).memory :=
  laidMetH_of_parts (laidMet_of_run' 8 (by kernel_rfl) (by kernel_rfl)) (by kernel_rfl)
theorem own_knobR : ownKnob Tryz.prog.godebug = none := by kernel_rfl
theorem laid_outR : laidOutB Tryz.prog = true := by kernel_rfl
end Go.Vs.YtcohndmpimkjpaaGreatDoor
