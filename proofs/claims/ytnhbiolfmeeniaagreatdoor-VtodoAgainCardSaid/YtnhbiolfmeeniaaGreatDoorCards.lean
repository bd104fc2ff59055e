/-
  DERIVED. GIVEN WITH THE SEED: THE CARDS: each row of YtnhbiolfmeeniaaGreatDoorRows.lean that lists a variable, with what it lists TIED to the program's text (the seventh form; the later family's looks); each row that meets fmt, with fmt's text TOLD by the authors' own Lean function (tested against real Go, not proved from fmt's source: count such statements apart). THE CARD IS WHAT COUNTS. Prove the row's statement (the work); the ties are given (YtnhbiolfmeeniaaGreatDoorTie.lean); close each card by the builder's one call (the guide's Derived/Test/ToyasCard.lean, 'card_holds'). Laid BY PROGRAM, IN A SANDBOX (cutbox-door.mjs). By AI agents, Wed Nov 11 2026. No macro, syntax, notation, axiom, sorry.
-/
import Derived.Test.YtnhbiolfmeeniaaGreatDoorRows
import GoSem.ClaimSeven
namespace Go.Proofs.YtnhbiolfmeeniaaGreatDoor
namespace Rows

/-- THE TIED CARD OF 'errandlaw29.VtodoAgain'. -/
def vtodoAgainCard : Claim7 := { stood := { row := vtodoAgainRow, standIns := [], harness := (true, "01fa16b0e236d58594c452e4210a3ad6f9f4f2d005793310e5cf505b241637a4"), looks := true }, kinds := [], alts := [], laidByText := true, laidKinds := [.data, .data, .data, .data, .data, .handle, .pinned], laidTests := true, laidLooks := .later }
def VtodoAgainCardSaid : Prop := Claim7.holds Tryz.pinned (.plain (OpenSpec.ofChange vtodoAgainSpec)) vtodoAgainCard

/-- THE SECOND FORM's CARD OF 'errandlaw29.VtodoAgain'. -/
def vtodoAgainUptoCard : Claim7 := { stood := { row := vtodoAgainUptoRow, standIns := [], harness := (true, "01fa16b0e236d58594c452e4210a3ad6f9f4f2d005793310e5cf505b241637a4"), looks := true }, kinds := [], alts := [], laidByText := true, laidKinds := [.data, .data, .data, .data, .data, .handle, .pinned], laidTests := true, laidLooks := .later }
def VtodoAgainUptoCardSaid : Prop := Claim7.holds Tryz.pinned (.plain (OpenSpec.upto vtodoAgainSpec)) vtodoAgainUptoCard
end Rows
end Go.Proofs.YtnhbiolfmeeniaaGreatDoor
