/-
  DERIVED. GIVEN WITH THE SEED: THE CARDS: each row of YtbchceojmblkkaaGreatDoorRows.lean that lists a variable, with what it lists TIED to the program's text (the seventh form; the later family's looks); each row that meets fmt, with fmt's text TOLD by the authors' own Lean function (tested against real Go, not proved from fmt's source: count such statements apart). THE CARD IS WHAT COUNTS. Prove the row's statement (the work); the ties are given (YtbchceojmblkkaaGreatDoorTie.lean); close each card by the builder's one call (the guide's Derived/Test/ToyasCard.lean, 'card_holds'). Laid BY PROGRAM, IN A SANDBOX (cutbox-door.mjs). By AI agents, Wed Nov 11 2026. No macro, syntax, notation, axiom, sorry.
-/
import Derived.Test.YtbchceojmblkkaaGreatDoorRows
import GoSem.ClaimSeven
namespace Go.Proofs.YtbchceojmblkkaaGreatDoor
namespace Rows

/-- THE TIED CARD OF 'errandlaw20.NumsReads'. -/
def numsReadsCard : Claim7 := { stood := { row := numsReadsRow, standIns := [], harness := (true, "be09eb5db1f000ceecf2d1103c89abd79bdd50061a0caff9bd2b1eeacd71a183"), looks := true }, kinds := [], alts := [], laidByText := true, laidKinds := [.data, .data, .data, .data, .handle, .pinned], laidTests := true, laidLooks := .later }
def NumsReadsCardSaid : Prop := Claim7.holds Tryz.pinned (.plain (OpenSpec.ofChange numsReadsSpec)) numsReadsCard

/-- THE TIED CARD OF 'errandlaw20.NumsDays'. -/
def numsDaysCard : Claim7 := { stood := { row := numsDaysRow, standIns := [], harness := (true, "be09eb5db1f000ceecf2d1103c89abd79bdd50061a0caff9bd2b1eeacd71a183"), looks := true }, kinds := [], alts := [], laidByText := true, laidKinds := [.data, .data, .data, .data, .handle, .pinned], laidTests := true, laidLooks := .later }
def NumsDaysCardSaid : Prop := Claim7.holds Tryz.pinned (.plain (OpenSpec.ofChange numsDaysSpec)) numsDaysCard

/-- THE TIED CARD OF 'errandlaw20.NumsPrints'. -/
def numsPrintsCard : Claim7 := { stood := { row := numsPrintsRow, standIns := [], harness := (true, "be09eb5db1f000ceecf2d1103c89abd79bdd50061a0caff9bd2b1eeacd71a183"), looks := true }, kinds := [], alts := [], laidByText := true, laidKinds := [.data, .data, .data, .data, .handle, .pinned], laidTests := true, laidLooks := .later }
def NumsPrintsCardSaid : Prop := Claim7.holds Tryz.pinned (.plain (OpenSpec.ofChange numsPrintsSpec)) numsPrintsCard

/-- THE TIED CARD OF 'errandlaw20.NumsBack'. -/
def numsBackCard : Claim7 := { stood := { row := numsBackRow, standIns := [], harness := (true, "be09eb5db1f000ceecf2d1103c89abd79bdd50061a0caff9bd2b1eeacd71a183"), looks := true }, kinds := [], alts := [], laidByText := true, laidKinds := [.data, .data, .data, .data, .handle, .pinned], laidTests := true, laidLooks := .later }
def NumsBackCardSaid : Prop := Claim7.holds Tryz.pinned (.plain (OpenSpec.ofChange numsBackSpec)) numsBackCard

/-- THE TIED CARD OF 'errandlaw28.RelateBack'. -/
def relateBackCard : Claim7 := { stood := { row := relateBackRow, standIns := [], harness := (true, "be09eb5db1f000ceecf2d1103c89abd79bdd50061a0caff9bd2b1eeacd71a183"), looks := true }, kinds := [], alts := [], laidByText := true, laidKinds := [.data, .data, .data, .data, .handle, .pinned], laidTests := true, laidLooks := .later }
def RelateBackCardSaid : Prop := Claim7.holds Tryz.pinned (.plain (OpenSpec.ofChange relateBackSpec)) relateBackCard

/-- THE TIED CARD OF 'errandlaw21.RecurParses'. -/
def recurParsesCard : Claim7 := { stood := { row := recurParsesRow, standIns := [], harness := (true, "be09eb5db1f000ceecf2d1103c89abd79bdd50061a0caff9bd2b1eeacd71a183"), looks := true }, kinds := [], alts := [], laidByText := true, laidKinds := [.data, .data, .data, .data, .data, .handle, .pinned], laidTests := true, laidLooks := .later }
def RecurParsesCardSaid : Prop := Claim7.holds Tryz.pinned (.plain (OpenSpec.ofChange recurParsesSpec)) recurParsesCard

/-- THE TIED CARD OF 'errandlaw21.RecurTells'. -/
def recurTellsCard : Claim7 := { stood := { row := recurTellsRow, standIns := [], harness := (true, "be09eb5db1f000ceecf2d1103c89abd79bdd50061a0caff9bd2b1eeacd71a183"), looks := true }, kinds := [], alts := [], laidByText := true, laidKinds := [.data, .data, .data, .data, .data, .handle, .pinned], laidTests := true, laidLooks := .later }
def RecurTellsCardSaid : Prop := Claim7.holds Tryz.pinned (.plain (OpenSpec.ofChange recurTellsSpec)) recurTellsCard

/-- THE TIED CARD OF 'errandlaw21.RecurBack'. -/
def recurBackCard : Claim7 := { stood := { row := recurBackRow, standIns := [], harness := (true, "be09eb5db1f000ceecf2d1103c89abd79bdd50061a0caff9bd2b1eeacd71a183"), looks := true }, kinds := [], alts := [], laidByText := true, laidKinds := [.data, .data, .data, .data, .data, .handle, .pinned], laidTests := true, laidLooks := .later }
def RecurBackCardSaid : Prop := Claim7.holds Tryz.pinned (.plain (OpenSpec.ofChange recurBackSpec)) recurBackCard

/-- THE TIED CARD OF 'errandlaw21.RecurParts'. -/
def recurPartsCard : Claim7 := { stood := { row := recurPartsRow, standIns := [], harness := (true, "be09eb5db1f000ceecf2d1103c89abd79bdd50061a0caff9bd2b1eeacd71a183"), looks := true }, kinds := [], alts := [], laidByText := true, laidKinds := [.data, .data, .data, .data, .data, .handle, .pinned], laidTests := true, laidLooks := .later }
def RecurPartsCardSaid : Prop := Claim7.holds Tryz.pinned (.plain (OpenSpec.ofChange recurPartsSpec)) recurPartsCard

/-- THE TIED CARD OF 'errandlaw21.RecurFaults'. -/
def recurFaultsCard : Claim7 := { stood := { row := recurFaultsRow, standIns := [], harness := (true, "be09eb5db1f000ceecf2d1103c89abd79bdd50061a0caff9bd2b1eeacd71a183"), looks := true }, kinds := [], alts := [], laidByText := true, laidKinds := [.data, .data, .data, .data, .data, .handle, .pinned], laidTests := true, laidLooks := .later }
def RecurFaultsCardSaid : Prop := Claim7.holds Tryz.pinned (.plain (OpenSpec.ofChange recurFaultsSpec)) recurFaultsCard

/-- THE SECOND FORM's CARD OF 'errandlaw20.NumsReads'. -/
def numsReadsUptoCard : Claim7 := { stood := { row := numsReadsUptoRow, standIns := [], harness := (true, "be09eb5db1f000ceecf2d1103c89abd79bdd50061a0caff9bd2b1eeacd71a183"), looks := true }, kinds := [], alts := [], laidByText := true, laidKinds := [.data, .data, .data, .data, .handle, .pinned], laidTests := true, laidLooks := .later }
def NumsReadsUptoCardSaid : Prop := Claim7.holds Tryz.pinned (.plain (OpenSpec.upto numsReadsSpec)) numsReadsUptoCard

/-- THE SECOND FORM's CARD OF 'errandlaw20.NumsDays'. -/
def numsDaysUptoCard : Claim7 := { stood := { row := numsDaysUptoRow, standIns := [], harness := (true, "be09eb5db1f000ceecf2d1103c89abd79bdd50061a0caff9bd2b1eeacd71a183"), looks := true }, kinds := [], alts := [], laidByText := true, laidKinds := [.data, .data, .data, .data, .handle, .pinned], laidTests := true, laidLooks := .later }
def NumsDaysUptoCardSaid : Prop := Claim7.holds Tryz.pinned (.plain (OpenSpec.upto numsDaysSpec)) numsDaysUptoCard

/-- THE SECOND FORM's CARD OF 'errandlaw20.NumsPrints'. -/
def numsPrintsUptoCard : Claim7 := { stood := { row := numsPrintsUptoRow, standIns := [], harness := (true, "be09eb5db1f000ceecf2d1103c89abd79bdd50061a0caff9bd2b1eeacd71a183"), looks := true }, kinds := [], alts := [], laidByText := true, laidKinds := [.data, .data, .data, .data, .handle, .pinned], laidTests := true, laidLooks := .later }
def NumsPrintsUptoCardSaid : Prop := Claim7.holds Tryz.pinned (.plain (OpenSpec.upto numsPrintsSpec)) numsPrintsUptoCard

/-- THE SECOND FORM's CARD OF 'errandlaw20.NumsBack'. -/
def numsBackUptoCard : Claim7 := { stood := { row := numsBackUptoRow, standIns := [], harness := (true, "be09eb5db1f000ceecf2d1103c89abd79bdd50061a0caff9bd2b1eeacd71a183"), looks := true }, kinds := [], alts := [], laidByText := true, laidKinds := [.data, .data, .data, .data, .handle, .pinned], laidTests := true, laidLooks := .later }
def NumsBackUptoCardSaid : Prop := Claim7.holds Tryz.pinned (.plain (OpenSpec.upto numsBackSpec)) numsBackUptoCard

/-- THE SECOND FORM's CARD OF 'errandlaw28.RelateBack'. -/
def relateBackUptoCard : Claim7 := { stood := { row := relateBackUptoRow, standIns := [], harness := (true, "be09eb5db1f000ceecf2d1103c89abd79bdd50061a0caff9bd2b1eeacd71a183"), looks := true }, kinds := [], alts := [], laidByText := true, laidKinds := [.data, .data, .data, .data, .handle, .pinned], laidTests := true, laidLooks := .later }
def RelateBackUptoCardSaid : Prop := Claim7.holds Tryz.pinned (.plain (OpenSpec.upto relateBackSpec)) relateBackUptoCard

/-- THE SECOND FORM's CARD OF 'errandlaw21.RecurParses'. -/
def recurParsesUptoCard : Claim7 := { stood := { row := recurParsesUptoRow, standIns := [], harness := (true, "be09eb5db1f000ceecf2d1103c89abd79bdd50061a0caff9bd2b1eeacd71a183"), looks := true }, kinds := [], alts := [], laidByText := true, laidKinds := [.data, .data, .data, .data, .data, .handle, .pinned], laidTests := true, laidLooks := .later }
def RecurParsesUptoCardSaid : Prop := Claim7.holds Tryz.pinned (.plain (OpenSpec.upto recurParsesSpec)) recurParsesUptoCard

/-- THE SECOND FORM's CARD OF 'errandlaw21.RecurTells'. -/
def recurTellsUptoCard : Claim7 := { stood := { row := recurTellsUptoRow, standIns := [], harness := (true, "be09eb5db1f000ceecf2d1103c89abd79bdd50061a0caff9bd2b1eeacd71a183"), looks := true }, kinds := [], alts := [], laidByText := true, laidKinds := [.data, .data, .data, .data, .data, .handle, .pinned], laidTests := true, laidLooks := .later }
def RecurTellsUptoCardSaid : Prop := Claim7.holds Tryz.pinned (.plain (OpenSpec.upto recurTellsSpec)) recurTellsUptoCard

/-- THE SECOND FORM's CARD OF 'errandlaw21.RecurBack'. -/
def recurBackUptoCard : Claim7 := { stood := { row := recurBackUptoRow, standIns := [], harness := (true, "be09eb5db1f000ceecf2d1103c89abd79bdd50061a0caff9bd2b1eeacd71a183"), looks := true }, kinds := [], alts := [], laidByText := true, laidKinds := [.data, .data, .data, .data, .data, .handle, .pinned], laidTests := true, laidLooks := .later }
def RecurBackUptoCardSaid : Prop := Claim7.holds Tryz.pinned (.plain (OpenSpec.upto recurBackSpec)) recurBackUptoCard

/-- THE SECOND FORM's CARD OF 'errandlaw21.RecurParts'. -/
def recurPartsUptoCard : Claim7 := { stood := { row := recurPartsUptoRow, standIns := [], harness := (true, "be09eb5db1f000ceecf2d1103c89abd79bdd50061a0caff9bd2b1eeacd71a183"), looks := true }, kinds := [], alts := [], laidByText := true, laidKinds := [.data, .data, .data, .data, .data, .handle, .pinned], laidTests := true, laidLooks := .later }
def RecurPartsUptoCardSaid : Prop := Claim7.holds Tryz.pinned (.plain (OpenSpec.upto recurPartsSpec)) recurPartsUptoCard

/-- THE SECOND FORM's CARD OF 'errandlaw21.RecurFaults'. -/
def recurFaultsUptoCard : Claim7 := { stood := { row := recurFaultsUptoRow, standIns := [], harness := (true, "be09eb5db1f000ceecf2d1103c89abd79bdd50061a0caff9bd2b1eeacd71a183"), looks := true }, kinds := [], alts := [], laidByText := true, laidKinds := [.data, .data, .data, .data, .data, .handle, .pinned], laidTests := true, laidLooks := .later }
def RecurFaultsUptoCardSaid : Prop := Claim7.holds Tryz.pinned (.plain (OpenSpec.upto recurFaultsSpec)) recurFaultsUptoCard
end Rows
end Go.Proofs.YtbchceojmblkkaaGreatDoor
