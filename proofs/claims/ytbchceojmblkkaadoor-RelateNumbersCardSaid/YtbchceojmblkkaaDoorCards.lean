/-
  DERIVED. GIVEN WITH THE SEED: THE CARDS: each row of YtbchceojmblkkaaDoorRows.lean that lists a variable, with what it lists TIED to the program's text (the seventh form; the later family's looks); each row that meets fmt, with fmt's text TOLD by the authors' own Lean function (tested against real Go, not proved from fmt's source: count such statements apart). THE CARD IS WHAT COUNTS. Prove the row's statement (the work); the ties are given (YtbchceojmblkkaaDoorTie.lean); close each card by the builder's one call (the guide's Derived/Test/ToyasCard.lean, 'card_holds'). Laid BY PROGRAM, IN A SANDBOX (cutbox-door.mjs). By AI agents, Wed Nov 11 2026. No macro, syntax, notation, axiom, sorry.
-/
import Derived.Test.YtbchceojmblkkaaDoorRows
import GoSem.ClaimSeven
namespace Go.Proofs.YtbchceojmblkkaaDoor
namespace Rows

/-- THE TIED CARD OF 'errandlaw28.RelateNumbers'. -/
def relateNumbersCard : Claim7 := { stood := { row := relateNumbersRow, standIns := [], harness := (true, "fa4b889817364ecfe85b129dca34ab797aaa13e0a5a6f1da4793267a2e6cb911"), looks := false }, kinds := [], alts := [], laidByText := true, laidKinds := [.data, .data, .data, .data, .pinned], laidTests := true, laidLooks := .later }
def RelateNumbersCardSaid : Prop := Claim7.holds Tryd.pinned (.plain (OpenSpec.ofChange relateNumbersSpec)) relateNumbersCard

/-- THE SECOND FORM's CARD OF 'errandlaw28.RelateNumbers'. -/
def relateNumbersUptoCard : Claim7 := { stood := { row := relateNumbersUptoRow, standIns := [], harness := (true, "fa4b889817364ecfe85b129dca34ab797aaa13e0a5a6f1da4793267a2e6cb911"), looks := false }, kinds := [], alts := [], laidByText := true, laidKinds := [.data, .data, .data, .data, .pinned], laidTests := true, laidLooks := .later }
def RelateNumbersUptoCardSaid : Prop := Claim7.holds Tryd.pinned (.plain (OpenSpec.upto relateNumbersSpec)) relateNumbersUptoCard
end Rows
end Go.Proofs.YtbchceojmblkkaaDoor
