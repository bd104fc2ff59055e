/- What the condition 'laid' of this seat's statements gives: the known globals. No conditions. -/
import Derived.Test.YtbchceojmblkkaaGreatDoorLA
import Derived.Test.YtbchceojmblkkaaGreatDoorRD
import Derived.Test.YtbchceojmblkkaaGreatDoorCards
import Derived.Test.YtbchceojmblkkaaGreatDoorTie
import Derived.SevenTiedAt
set_option linter.unusedVariables false
set_option linter.unusedSimpArgs false
set_option linter.unusedSimpArgs false
set_option linter.unusedVariables false
set_option maxRecDepth 100000
namespace Go.Vs.YtbchceojmblkkaaGreatDoor
open Go.Proofs Go.Proofs.YtbchceojmblkkaaGreatDoor Go.RowKit Go.Lib
def LaR : List (String × DataW Unit) := [("errand/civil.before", Rows.laid_errand_civil_before), ("math/bits.deBruijn32tab", Rows.laid_math_bits_deBruijn32tab), ("math/bits.deBruijn64tab", Rows.laid_math_bits_deBruijn64tab), ("internal/strconv.uint64pow10", Rows.laid_internal_strconv_uint64pow10), ("unicode/utf8.acceptRanges", Rows.laid_unicode_utf8_acceptRanges), ("errors.errorType", Rows.laid_errors_errorType), ("unicode/utf8.first", Rows.laid_unicode_utf8_first)]
theorem gl_bef {W : World} (q : VarReads Tryz.prog W "errand/civil.before" Rows.laid_errand_civil_before) : RepGl W (Old W) (2, befZ.map (.int .i64 ·)) := by
 have e : (Rows.laid_errand_civil_before : DataW Unit) = tabData .i64 befZ := by kernel_rfl
 rw [e] at q
 have hg : Tryz.prog.globalNamed "errand/civil.before" = some 2 := by kernel_rfl
 exact gl_of_tab hg (tabIs_of_reads (t := 302) (e := 3) (n := 13) hg (by kernel_rfl) (by kernel_rfl) (by kernel_rfl) (by kernel_rfl) (by kernel_rfl) q)
theorem hglR {W : World} (h : laidMetH Tryz.prog LaR W) : ∀ p, p ∈ G2 → RepGl W (Old W) p := by
 have h' : laidMet Tryz.prog [("errand/civil.before", Rows.laid_errand_civil_before), ("math/bits.deBruijn32tab", Rows.laid_math_bits_deBruijn32tab), ("math/bits.deBruijn64tab", Rows.laid_math_bits_deBruijn64tab), ("internal/strconv.uint64pow10", Rows.laid_internal_strconv_uint64pow10), ("unicode/utf8.acceptRanges", Rows.laid_unicode_utf8_acceptRanges), ("unicode/utf8.first", Rows.laid_unicode_utf8_first)] W ∧ handlesMet Tryz.prog [("errors.errorType", Rows.laid_errors_errorType)] W := h
 obtain ⟨u1, u2⟩ := gl_utf (reads_of h'.1 (by simp)) (reads_of h'.1 (by simp))
 have p1 := gl_pow (reads_of h'.1 (by simp))
 have e1 := gl_err h'.2
 have b1 := gl_bef (reads_of h'.1 (by simp))
 intro p hp
 simp only [G2, G, List.mem_cons, List.not_mem_nil, or_false] at hp
 rcases hp with rfl | rfl | rfl | rfl | rfl
 ·exact b1
 ·exact e1
 ·exact u1
 ·exact u2
 ·exact p1
end Go.Vs.YtbchceojmblkkaaGreatDoor
set_option linter.unusedSimpArgs false
set_option linter.unusedVariables false
set_option maxRecDepth 100000
namespace Go.Vs.YtbchceojmblkkaaGreatDoor
open Go.Proofs Go.Proofs.YtbchceojmblkkaaGreatDoor Go.RowKit
def litIntsR : DataW Unit → List Int
 | .agg l => l.map fun
  | .lit (.int _ z) => z
  | _ => 0
 | _ => []
noncomputable def laidWorldR (os : Os) : World :=
 let w0 := World.holding Tryz.prog os ⟨#[], #[], []⟩
 { w0 with heap := ((((((w0.heap.modify 0 fun
    | .cells _ t frozen => .cells #[.iface 245 (.agg #[.pointer (some ⟨8, 27, none⟩)])] t frozen
    | o => o).modify 4 fun
    | .cells _ t frozen => .cells (firstZ.map (Value.int .u8 ·)).toArray t frozen
    | o => o).modify 5 fun
    | .cells _ t frozen => .cells (accZ.map (Value.int .u8 ·)).toArray t frozen
    | o => o).modify 3 fun
    | .cells _ t frozen => .cells (powZ.map (Value.int .u64 ·)).toArray t frozen
    | o => o).modify 6 fun
    | .cells _ t frozen => .cells ((litIntsR Rows.laid_math_bits_deBruijn32tab).map (Value.int .u8 ·)).toArray t frozen
    | o => o).modify 2 fun
    | .cells _ t frozen => .cells (befZ.map (Value.int .i64 ·)).toArray t frozen
    | o => o).modify 7 fun
    | .cells _ t frozen => .cells ((litIntsR Rows.laid_math_bits_deBruijn64tab).map (Value.int .u8 ·)).toArray t frozen
    | o => o }
theorem laidWorldR_met (os : Os) (args : Array Value) : laidMetH Tryz.prog LaR ((laidWorldR os).forCall (fun _ _ => 0) ⟨#[], args, []⟩).memory :=
 laidMetH_of_parts (laidMet_of_run' 8 (by kernel_rfl) (by kernel_rfl)) (by kernel_rfl)
theorem own_knobR : ownKnob Tryz.prog.godebug = none := by kernel_rfl
theorem laid_outR : laidOutB Tryz.prog = true := by kernel_rfl
end Go.Vs.YtbchceojmblkkaaGreatDoor
