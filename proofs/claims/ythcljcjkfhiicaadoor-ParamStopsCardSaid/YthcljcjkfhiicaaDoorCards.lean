/-
  DERIVED. GIVEN WITH THE SEED: THE CARDS: each row of YthcljcjkfhiicaaDoorRows.lean that lists a variable, with what it lists TIED to the program's text (the seventh form; the later family's looks); each row that meets fmt, with fmt's text TOLD by the authors' own Lean function (tested against real Go, not proved from fmt's source: count such statements apart). THE CARD IS WHAT COUNTS. Prove the row's statement (the work); the ties are given (YthcljcjkfhiicaaDoorTie.lean); close each card by the builder's one call (the guide's Derived/Test/ToyasCard.lean, 'card_holds'). Laid BY PROGRAM, IN A SANDBOX (cutbox-door.mjs). By AI agents, Wed Nov 11 2026. No macro, syntax, notation, axiom, sorry.
-/
import Derived.Test.YthcljcjkfhiicaaDoorRows
import GoSem.ClaimSeven
namespace Go.Proofs.YthcljcjkfhiicaaDoor
namespace Rows

/-- THE TIED CARD OF 'errandlaw17.ParamBack'. -/
def paramBackCard : Claim7 := { stood := { row := paramBackRow, standIns := [], harness := (true, "03bbb00ddeb24e009495014748d4517875e5e03f4bc560781ae775a469531a74"), looks := true }, kinds := [], alts := [], laidByText := true, laidKinds := [.data, .handle, .pinned], laidTests := true, laidLooks := .later }
def ParamBackCardSaid : Prop := Claim7.holds Tryd.pinned (.plain (OpenSpec.ofChange paramBackSpec)) paramBackCard

/-- THE TIED CARD OF 'errandlaw17.ParamStops'. -/
def paramStopsCard : Claim7 := { stood := { row := paramStopsRow, standIns := [], harness := (true, "03bbb00ddeb24e009495014748d4517875e5e03f4bc560781ae775a469531a74"), looks := true }, kinds := [], alts := [], laidByText := true, laidKinds := [.data, .handle, .pinned], laidTests := true, laidLooks := .later }
def ParamStopsCardSaid : Prop := Claim7.holds Tryd.pinned (.plain (OpenSpec.ofChange paramStopsSpec)) paramStopsCard

/-- THE SECOND FORM's CARD OF 'errandlaw17.ParamBack'. -/
def paramBackUptoCard : Claim7 := { stood := { row := paramBackUptoRow, standIns := [], harness := (true, "03bbb00ddeb24e009495014748d4517875e5e03f4bc560781ae775a469531a74"), looks := true }, kinds := [], alts := [], laidByText := true, laidKinds := [.data, .handle, .pinned], laidTests := true, laidLooks := .later }
def ParamBackUptoCardSaid : Prop := Claim7.holds Tryd.pinned (.plain (OpenSpec.upto paramBackSpec)) paramBackUptoCard

/-- THE SECOND FORM's CARD OF 'errandlaw17.ParamStops'. -/
def paramStopsUptoCard : Claim7 := { stood := { row := paramStopsUptoRow, standIns := [], harness := (true, "03bbb00ddeb24e009495014748d4517875e5e03f4bc560781ae775a469531a74"), looks := true }, kinds := [], alts := [], laidByText := true, laidKinds := [.data, .handle, .pinned], laidTests := true, laidLooks := .later }
def ParamStopsUptoCardSaid : Prop := Claim7.holds Tryd.pinned (.plain (OpenSpec.upto paramStopsSpec)) paramStopsUptoCard
end Rows
end Go.Proofs.YthcljcjkfhiicaaDoor
