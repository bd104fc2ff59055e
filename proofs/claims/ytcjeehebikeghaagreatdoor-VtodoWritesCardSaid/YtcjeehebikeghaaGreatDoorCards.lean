/-
  DERIVED. GIVEN WITH THE SEED: THE CARDS: each row of YtcjeehebikeghaaGreatDoorRows.lean that lists a variable, with what it lists TIED to the program's text (the seventh form; the later family's looks); each row that meets fmt, with fmt's text TOLD by the authors' own Lean function (tested against real Go, not proved from fmt's source: count such statements apart). THE CARD IS WHAT COUNTS. Prove the row's statement (the work); the ties are given (YtcjeehebikeghaaGreatDoorTie.lean); close each card by the builder's one call (the guide's Derived/Test/ToyasCard.lean, 'card_holds'). Laid BY PROGRAM, IN A SANDBOX (cutbox-door.mjs). By AI agents, Wed Nov 11 2026. No macro, syntax, notation, axiom, sorry.
-/
import Derived.Test.YtcjeehebikeghaaGreatDoorRows
import GoSem.ClaimSeven
namespace Go.Proofs.YtcjeehebikeghaaGreatDoor
namespace Rows

/-- THE TIED CARD OF 'errandlaw29.VtodoReads'. -/
def vtodoReadsCard : Claim7 := { stood := { row := vtodoReadsRow, standIns := [], harness := (true, "89a3063ff5b31a606e9657ba5e41edd71f69750d1853f3c01da4eb10e1ab54a0"), looks := true }, kinds := [], alts := [], laidByText := true, laidKinds := [.data, .data, .data, .data, .data, .handle, .pinned], laidTests := true, laidLooks := .later }
def VtodoReadsCardSaid : Prop := Claim7.holds Tryz.pinned (.plain (OpenSpec.ofChange vtodoReadsSpec)) vtodoReadsCard

/-- THE TIED CARD OF 'errandlaw29.VtodoWrites'. -/
def vtodoWritesCard : Claim7 := { stood := { row := vtodoWritesRow, standIns := [], harness := (true, "89a3063ff5b31a606e9657ba5e41edd71f69750d1853f3c01da4eb10e1ab54a0"), looks := true }, kinds := [], alts := [], laidByText := true, laidKinds := [.data, .data, .data, .data, .data, .handle, .pinned], laidTests := true, laidLooks := .later }
def VtodoWritesCardSaid : Prop := Claim7.holds Tryz.pinned (.plain (OpenSpec.ofChange vtodoWritesSpec)) vtodoWritesCard

/-- THE TIED CARD OF 'errandlaw29.VtodoOrder'. -/
def vtodoOrderCard : Claim7 := { stood := { row := vtodoOrderRow, standIns := [], harness := (true, "89a3063ff5b31a606e9657ba5e41edd71f69750d1853f3c01da4eb10e1ab54a0"), looks := true }, kinds := [], alts := [], laidByText := true, laidKinds := [.data, .data, .data, .data, .data, .handle, .pinned], laidTests := true, laidLooks := .later }
def VtodoOrderCardSaid : Prop := Claim7.holds Tryz.pinned (.plain (OpenSpec.ofChange vtodoOrderSpec)) vtodoOrderCard

/-- THE TIED CARD OF 'errandlaw29.VtodoAlone'. -/
def vtodoAloneCard : Claim7 := { stood := { row := vtodoAloneRow, standIns := [], harness := (true, "89a3063ff5b31a606e9657ba5e41edd71f69750d1853f3c01da4eb10e1ab54a0"), looks := true }, kinds := [], alts := [], laidByText := true, laidKinds := [.data, .data, .data, .data, .data, .handle, .pinned], laidTests := true, laidLooks := .later }
def VtodoAloneCardSaid : Prop := Claim7.holds Tryz.pinned (.plain (OpenSpec.ofChange vtodoAloneSpec)) vtodoAloneCard

/-- THE TIED CARD OF 'errandlaw29.VtodoLife'. -/
def vtodoLifeCard : Claim7 := { stood := { row := vtodoLifeRow, standIns := [], harness := (true, "89a3063ff5b31a606e9657ba5e41edd71f69750d1853f3c01da4eb10e1ab54a0"), looks := true }, kinds := [], alts := [], laidByText := true, laidKinds := [.data, .data, .data, .data, .data, .handle, .pinned], laidTests := true, laidLooks := .later }
def VtodoLifeCardSaid : Prop := Claim7.holds Tryz.pinned (.plain (OpenSpec.ofChange vtodoLifeSpec)) vtodoLifeCard

/-- THE SECOND FORM's CARD OF 'errandlaw29.VtodoReads'. -/
def vtodoReadsUptoCard : Claim7 := { stood := { row := vtodoReadsUptoRow, standIns := [], harness := (true, "89a3063ff5b31a606e9657ba5e41edd71f69750d1853f3c01da4eb10e1ab54a0"), looks := true }, kinds := [], alts := [], laidByText := true, laidKinds := [.data, .data, .data, .data, .data, .handle, .pinned], laidTests := true, laidLooks := .later }
def VtodoReadsUptoCardSaid : Prop := Claim7.holds Tryz.pinned (.plain (OpenSpec.upto vtodoReadsSpec)) vtodoReadsUptoCard

/-- THE SECOND FORM's CARD OF 'errandlaw29.VtodoWrites'. -/
def vtodoWritesUptoCard : Claim7 := { stood := { row := vtodoWritesUptoRow, standIns := [], harness := (true, "89a3063ff5b31a606e9657ba5e41edd71f69750d1853f3c01da4eb10e1ab54a0"), looks := true }, kinds := [], alts := [], laidByText := true, laidKinds := [.data, .data, .data, .data, .data, .handle, .pinned], laidTests := true, laidLooks := .later }
def VtodoWritesUptoCardSaid : Prop := Claim7.holds Tryz.pinned (.plain (OpenSpec.upto vtodoWritesSpec)) vtodoWritesUptoCard

/-- THE SECOND FORM's CARD OF 'errandlaw29.VtodoOrder'. -/
def vtodoOrderUptoCard : Claim7 := { stood := { row := vtodoOrderUptoRow, standIns := [], harness := (true, "89a3063ff5b31a606e9657ba5e41edd71f69750d1853f3c01da4eb10e1ab54a0"), looks := true }, kinds := [], alts := [], laidByText := true, laidKinds := [.data, .data, .data, .data, .data, .handle, .pinned], laidTests := true, laidLooks := .later }
def VtodoOrderUptoCardSaid : Prop := Claim7.holds Tryz.pinned (.plain (OpenSpec.upto vtodoOrderSpec)) vtodoOrderUptoCard

/-- THE SECOND FORM's CARD OF 'errandlaw29.VtodoAlone'. -/
def vtodoAloneUptoCard : Claim7 := { stood := { row := vtodoAloneUptoRow, standIns := [], harness := (true, "89a3063ff5b31a606e9657ba5e41edd71f69750d1853f3c01da4eb10e1ab54a0"), looks := true }, kinds := [], alts := [], laidByText := true, laidKinds := [.data, .data, .data, .data, .data, .handle, .pinned], laidTests := true, laidLooks := .later }
def VtodoAloneUptoCardSaid : Prop := Claim7.holds Tryz.pinned (.plain (OpenSpec.upto vtodoAloneSpec)) vtodoAloneUptoCard

/-- THE SECOND FORM's CARD OF 'errandlaw29.VtodoLife'. -/
def vtodoLifeUptoCard : Claim7 := { stood := { row := vtodoLifeUptoRow, standIns := [], harness := (true, "89a3063ff5b31a606e9657ba5e41edd71f69750d1853f3c01da4eb10e1ab54a0"), looks := true }, kinds := [], alts := [], laidByText := true, laidKinds := [.data, .data, .data, .data, .data, .handle, .pinned], laidTests := true, laidLooks := .later }
def VtodoLifeUptoCardSaid : Prop := Claim7.holds Tryz.pinned (.plain (OpenSpec.upto vtodoLifeSpec)) vtodoLifeUptoCard
end Rows
end Go.Proofs.YtcjeehebikeghaaGreatDoor
