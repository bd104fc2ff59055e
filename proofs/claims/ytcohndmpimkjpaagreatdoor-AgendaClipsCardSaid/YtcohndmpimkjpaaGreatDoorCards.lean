/-
  DERIVED. GIVEN WITH THE SEED: THE CARDS: each row of YtcohndmpimkjpaaGreatDoorRows.lean that lists a variable, with what it lists TIED to the program's text (the seventh form; the later family's looks); each row that meets fmt, with fmt's text TOLD by the authors' own Lean function (tested against real Go, not proved from fmt's source: count such statements apart). THE CARD IS WHAT COUNTS. Prove the row's statement (the work); the ties are given (YtcohndmpimkjpaaGreatDoorTie.lean); close each card by the builder's one call (the guide's Derived/Test/ToyasCard.lean, 'card_holds'). Laid BY PROGRAM, IN A SANDBOX (cutbox-door.mjs). By AI agents, Wed Nov 11 2026. No macro, syntax, notation, axiom, sorry.
-/
import Derived.Test.YtcohndmpimkjpaaGreatDoorRows
import GoSem.ClaimSeven
namespace Go.Proofs.YtcohndmpimkjpaaGreatDoor
namespace Rows

/-- THE TIED CARD OF 'errandlaw36.AgendaClips'. -/
def agendaClipsCard : Claim7 := { stood := { row := agendaClipsRow, standIns := [], harness := (true, "79495bdafdae195b829a19ea2bfcd6580d792443c1945550dda6ff755592dc25"), looks := true }, kinds := [], alts := [], laidByText := true, laidKinds := [.data, .data, .handle, .pinned], laidTests := true, laidLooks := .later }
def AgendaClipsCardSaid : Prop := Claim7.holds Tryz.pinned (.plain (OpenSpec.ofChange agendaClipsSpec)) agendaClipsCard

/-- THE SECOND FORM's CARD OF 'errandlaw36.AgendaClips'. -/
def agendaClipsUptoCard : Claim7 := { stood := { row := agendaClipsUptoRow, standIns := [], harness := (true, "79495bdafdae195b829a19ea2bfcd6580d792443c1945550dda6ff755592dc25"), looks := true }, kinds := [], alts := [], laidByText := true, laidKinds := [.data, .data, .handle, .pinned], laidTests := true, laidLooks := .later }
def AgendaClipsUptoCardSaid : Prop := Claim7.holds Tryz.pinned (.plain (OpenSpec.upto agendaClipsSpec)) agendaClipsUptoCard
end Rows
end Go.Proofs.YtcohndmpimkjpaaGreatDoor
