/-
  DERIVED. GIVEN WITH THE SEED: THE CARDS: each row of YthcljcjkfhiicaaGreatDoorRows.lean that lists a variable, with what it lists TIED to the program's text (the seventh form; the later family's looks); each row that meets fmt, with fmt's text TOLD by the authors' own Lean function (tested against real Go, not proved from fmt's source: count such statements apart). THE CARD IS WHAT COUNTS. Prove the row's statement (the work); the ties are given (YthcljcjkfhiicaaGreatDoorTie.lean); close each card by the builder's one call (the guide's Derived/Test/ToyasCard.lean, 'card_holds'). Laid BY PROGRAM, IN A SANDBOX (cutbox-door.mjs). By AI agents, Wed Nov 11 2026. No macro, syntax, notation, axiom, sorry.
-/
import Derived.Test.YthcljcjkfhiicaaGreatDoorRows
import GoSem.ClaimSeven
namespace Go.Proofs.YthcljcjkfhiicaaGreatDoor
namespace Rows

/-- THE TIED CARD OF 'errandlaw17.ParamParses'. -/
def paramParsesCard : Claim7 := { stood := { row := paramParsesRow, standIns := [], harness := (true, "743b55edffced672b09a4ca6e466f101b8b6b4af9fbef7648780fc78450818f4"), looks := true }, kinds := [], alts := [], laidByText := true, laidKinds := [.data, .handle, .pinned], laidTests := true, laidLooks := .later }
def ParamParsesCardSaid : Prop := Claim7.holds Tryz.pinned (.plain (OpenSpec.ofChange paramParsesSpec)) paramParsesCard

/-- THE TIED CARD OF 'errandlaw17.ParamTells'. -/
def paramTellsCard : Claim7 := { stood := { row := paramTellsRow, standIns := [], harness := (true, "743b55edffced672b09a4ca6e466f101b8b6b4af9fbef7648780fc78450818f4"), looks := true }, kinds := [], alts := [], laidByText := true, laidKinds := [.data, .handle, .pinned], laidTests := true, laidLooks := .later }
def ParamTellsCardSaid : Prop := Claim7.holds Tryz.pinned (.plain (OpenSpec.ofChange paramTellsSpec)) paramTellsCard

/-- THE TIED CARD OF 'errandlaw18.LineParses'. -/
def lineParsesCard : Claim7 := { stood := { row := lineParsesRow, standIns := [], harness := (true, "743b55edffced672b09a4ca6e466f101b8b6b4af9fbef7648780fc78450818f4"), looks := true }, kinds := [], alts := [], laidByText := true, laidKinds := [.data, .handle, .pinned], laidTests := true, laidLooks := .later }
def LineParsesCardSaid : Prop := Claim7.holds Tryz.pinned (.plain (OpenSpec.ofChange lineParsesSpec)) lineParsesCard

/-- THE TIED CARD OF 'errandlaw18.LineTells'. -/
def lineTellsCard : Claim7 := { stood := { row := lineTellsRow, standIns := [], harness := (true, "743b55edffced672b09a4ca6e466f101b8b6b4af9fbef7648780fc78450818f4"), looks := true }, kinds := [], alts := [], laidByText := true, laidKinds := [.data, .handle, .pinned], laidTests := true, laidLooks := .later }
def LineTellsCardSaid : Prop := Claim7.holds Tryz.pinned (.plain (OpenSpec.ofChange lineTellsSpec)) lineTellsCard

/-- THE TIED CARD OF 'errandlaw18.LineBack'. -/
def lineBackCard : Claim7 := { stood := { row := lineBackRow, standIns := [], harness := (true, "743b55edffced672b09a4ca6e466f101b8b6b4af9fbef7648780fc78450818f4"), looks := true }, kinds := [], alts := [], laidByText := true, laidKinds := [.data, .handle, .pinned], laidTests := true, laidLooks := .later }
def LineBackCardSaid : Prop := Claim7.holds Tryz.pinned (.plain (OpenSpec.ofChange lineBackSpec)) lineBackCard

/-- THE TIED CARD OF 'errandlaw18.LineSets'. -/
def lineSetsCard : Claim7 := { stood := { row := lineSetsRow, standIns := [], harness := (true, "743b55edffced672b09a4ca6e466f101b8b6b4af9fbef7648780fc78450818f4"), looks := true }, kinds := [], alts := [], laidByText := true, laidKinds := [.data, .handle, .pinned], laidTests := true, laidLooks := .later }
def LineSetsCardSaid : Prop := Claim7.holds Tryz.pinned (.plain (OpenSpec.ofChange lineSetsSpec)) lineSetsCard

/-- THE TIED CARD OF 'errandlaw18.LineFaults'. -/
def lineFaultsCard : Claim7 := { stood := { row := lineFaultsRow, standIns := [], harness := (true, "743b55edffced672b09a4ca6e466f101b8b6b4af9fbef7648780fc78450818f4"), looks := true }, kinds := [], alts := [], laidByText := true, laidKinds := [.data, .handle, .pinned], laidTests := true, laidLooks := .later }
def LineFaultsCardSaid : Prop := Claim7.holds Tryz.pinned (.plain (OpenSpec.ofChange lineFaultsSpec)) lineFaultsCard

/-- THE TIED CARD OF 'errandlaw19.TreeParses'. -/
def treeParsesCard : Claim7 := { stood := { row := treeParsesRow, standIns := [], harness := (true, "743b55edffced672b09a4ca6e466f101b8b6b4af9fbef7648780fc78450818f4"), looks := true }, kinds := [], alts := [], laidByText := true, laidKinds := [.data, .handle, .pinned], laidTests := true, laidLooks := .later }
def TreeParsesCardSaid : Prop := Claim7.holds Tryz.pinned (.plain (OpenSpec.ofChange treeParsesSpec)) treeParsesCard

/-- THE TIED CARD OF 'errandlaw19.TreeTells'. -/
def treeTellsCard : Claim7 := { stood := { row := treeTellsRow, standIns := [], harness := (true, "743b55edffced672b09a4ca6e466f101b8b6b4af9fbef7648780fc78450818f4"), looks := true }, kinds := [], alts := [], laidByText := true, laidKinds := [.data, .handle, .pinned], laidTests := true, laidLooks := .later }
def TreeTellsCardSaid : Prop := Claim7.holds Tryz.pinned (.plain (OpenSpec.ofChange treeTellsSpec)) treeTellsCard

/-- THE TIED CARD OF 'errandlaw19.TreeBack'. -/
def treeBackCard : Claim7 := { stood := { row := treeBackRow, standIns := [], harness := (true, "743b55edffced672b09a4ca6e466f101b8b6b4af9fbef7648780fc78450818f4"), looks := true }, kinds := [], alts := [], laidByText := true, laidKinds := [.data, .handle, .pinned], laidTests := true, laidLooks := .later }
def TreeBackCardSaid : Prop := Claim7.holds Tryz.pinned (.plain (OpenSpec.ofChange treeBackSpec)) treeBackCard

/-- THE TIED CARD OF 'errandlaw19.TreeEnds'. -/
def treeEndsCard : Claim7 := { stood := { row := treeEndsRow, standIns := [], harness := (true, "743b55edffced672b09a4ca6e466f101b8b6b4af9fbef7648780fc78450818f4"), looks := true }, kinds := [], alts := [], laidByText := true, laidKinds := [.data, .handle, .pinned], laidTests := true, laidLooks := .later }
def TreeEndsCardSaid : Prop := Claim7.holds Tryz.pinned (.plain (OpenSpec.ofChange treeEndsSpec)) treeEndsCard

/-- THE TIED CARD OF 'errandlaw19.TreeRows'. -/
def treeRowsCard : Claim7 := { stood := { row := treeRowsRow, standIns := [], harness := (true, "743b55edffced672b09a4ca6e466f101b8b6b4af9fbef7648780fc78450818f4"), looks := true }, kinds := [], alts := [], laidByText := true, laidKinds := [.data, .handle, .pinned], laidTests := true, laidLooks := .later }
def TreeRowsCardSaid : Prop := Claim7.holds Tryz.pinned (.plain (OpenSpec.ofChange treeRowsSpec)) treeRowsCard

/-- THE SECOND FORM's CARD OF 'errandlaw17.ParamParses'. -/
def paramParsesUptoCard : Claim7 := { stood := { row := paramParsesUptoRow, standIns := [], harness := (true, "743b55edffced672b09a4ca6e466f101b8b6b4af9fbef7648780fc78450818f4"), looks := true }, kinds := [], alts := [], laidByText := true, laidKinds := [.data, .handle, .pinned], laidTests := true, laidLooks := .later }
def ParamParsesUptoCardSaid : Prop := Claim7.holds Tryz.pinned (.plain (OpenSpec.upto paramParsesSpec)) paramParsesUptoCard

/-- THE SECOND FORM's CARD OF 'errandlaw17.ParamTells'. -/
def paramTellsUptoCard : Claim7 := { stood := { row := paramTellsUptoRow, standIns := [], harness := (true, "743b55edffced672b09a4ca6e466f101b8b6b4af9fbef7648780fc78450818f4"), looks := true }, kinds := [], alts := [], laidByText := true, laidKinds := [.data, .handle, .pinned], laidTests := true, laidLooks := .later }
def ParamTellsUptoCardSaid : Prop := Claim7.holds Tryz.pinned (.plain (OpenSpec.upto paramTellsSpec)) paramTellsUptoCard

/-- THE SECOND FORM's CARD OF 'errandlaw18.LineParses'. -/
def lineParsesUptoCard : Claim7 := { stood := { row := lineParsesUptoRow, standIns := [], harness := (true, "743b55edffced672b09a4ca6e466f101b8b6b4af9fbef7648780fc78450818f4"), looks := true }, kinds := [], alts := [], laidByText := true, laidKinds := [.data, .handle, .pinned], laidTests := true, laidLooks := .later }
def LineParsesUptoCardSaid : Prop := Claim7.holds Tryz.pinned (.plain (OpenSpec.upto lineParsesSpec)) lineParsesUptoCard

/-- THE SECOND FORM's CARD OF 'errandlaw18.LineTells'. -/
def lineTellsUptoCard : Claim7 := { stood := { row := lineTellsUptoRow, standIns := [], harness := (true, "743b55edffced672b09a4ca6e466f101b8b6b4af9fbef7648780fc78450818f4"), looks := true }, kinds := [], alts := [], laidByText := true, laidKinds := [.data, .handle, .pinned], laidTests := true, laidLooks := .later }
def LineTellsUptoCardSaid : Prop := Claim7.holds Tryz.pinned (.plain (OpenSpec.upto lineTellsSpec)) lineTellsUptoCard

/-- THE SECOND FORM's CARD OF 'errandlaw18.LineBack'. -/
def lineBackUptoCard : Claim7 := { stood := { row := lineBackUptoRow, standIns := [], harness := (true, "743b55edffced672b09a4ca6e466f101b8b6b4af9fbef7648780fc78450818f4"), looks := true }, kinds := [], alts := [], laidByText := true, laidKinds := [.data, .handle, .pinned], laidTests := true, laidLooks := .later }
def LineBackUptoCardSaid : Prop := Claim7.holds Tryz.pinned (.plain (OpenSpec.upto lineBackSpec)) lineBackUptoCard

/-- THE SECOND FORM's CARD OF 'errandlaw18.LineSets'. -/
def lineSetsUptoCard : Claim7 := { stood := { row := lineSetsUptoRow, standIns := [], harness := (true, "743b55edffced672b09a4ca6e466f101b8b6b4af9fbef7648780fc78450818f4"), looks := true }, kinds := [], alts := [], laidByText := true, laidKinds := [.data, .handle, .pinned], laidTests := true, laidLooks := .later }
def LineSetsUptoCardSaid : Prop := Claim7.holds Tryz.pinned (.plain (OpenSpec.upto lineSetsSpec)) lineSetsUptoCard

/-- THE SECOND FORM's CARD OF 'errandlaw18.LineFaults'. -/
def lineFaultsUptoCard : Claim7 := { stood := { row := lineFaultsUptoRow, standIns := [], harness := (true, "743b55edffced672b09a4ca6e466f101b8b6b4af9fbef7648780fc78450818f4"), looks := true }, kinds := [], alts := [], laidByText := true, laidKinds := [.data, .handle, .pinned], laidTests := true, laidLooks := .later }
def LineFaultsUptoCardSaid : Prop := Claim7.holds Tryz.pinned (.plain (OpenSpec.upto lineFaultsSpec)) lineFaultsUptoCard

/-- THE SECOND FORM's CARD OF 'errandlaw19.TreeParses'. -/
def treeParsesUptoCard : Claim7 := { stood := { row := treeParsesUptoRow, standIns := [], harness := (true, "743b55edffced672b09a4ca6e466f101b8b6b4af9fbef7648780fc78450818f4"), looks := true }, kinds := [], alts := [], laidByText := true, laidKinds := [.data, .handle, .pinned], laidTests := true, laidLooks := .later }
def TreeParsesUptoCardSaid : Prop := Claim7.holds Tryz.pinned (.plain (OpenSpec.upto treeParsesSpec)) treeParsesUptoCard

/-- THE SECOND FORM's CARD OF 'errandlaw19.TreeTells'. -/
def treeTellsUptoCard : Claim7 := { stood := { row := treeTellsUptoRow, standIns := [], harness := (true, "743b55edffced672b09a4ca6e466f101b8b6b4af9fbef7648780fc78450818f4"), looks := true }, kinds := [], alts := [], laidByText := true, laidKinds := [.data, .handle, .pinned], laidTests := true, laidLooks := .later }
def TreeTellsUptoCardSaid : Prop := Claim7.holds Tryz.pinned (.plain (OpenSpec.upto treeTellsSpec)) treeTellsUptoCard

/-- THE SECOND FORM's CARD OF 'errandlaw19.TreeBack'. -/
def treeBackUptoCard : Claim7 := { stood := { row := treeBackUptoRow, standIns := [], harness := (true, "743b55edffced672b09a4ca6e466f101b8b6b4af9fbef7648780fc78450818f4"), looks := true }, kinds := [], alts := [], laidByText := true, laidKinds := [.data, .handle, .pinned], laidTests := true, laidLooks := .later }
def TreeBackUptoCardSaid : Prop := Claim7.holds Tryz.pinned (.plain (OpenSpec.upto treeBackSpec)) treeBackUptoCard

/-- THE SECOND FORM's CARD OF 'errandlaw19.TreeEnds'. -/
def treeEndsUptoCard : Claim7 := { stood := { row := treeEndsUptoRow, standIns := [], harness := (true, "743b55edffced672b09a4ca6e466f101b8b6b4af9fbef7648780fc78450818f4"), looks := true }, kinds := [], alts := [], laidByText := true, laidKinds := [.data, .handle, .pinned], laidTests := true, laidLooks := .later }
def TreeEndsUptoCardSaid : Prop := Claim7.holds Tryz.pinned (.plain (OpenSpec.upto treeEndsSpec)) treeEndsUptoCard

/-- THE SECOND FORM's CARD OF 'errandlaw19.TreeRows'. -/
def treeRowsUptoCard : Claim7 := { stood := { row := treeRowsUptoRow, standIns := [], harness := (true, "743b55edffced672b09a4ca6e466f101b8b6b4af9fbef7648780fc78450818f4"), looks := true }, kinds := [], alts := [], laidByText := true, laidKinds := [.data, .handle, .pinned], laidTests := true, laidLooks := .later }
def TreeRowsUptoCardSaid : Prop := Claim7.holds Tryz.pinned (.plain (OpenSpec.upto treeRowsSpec)) treeRowsUptoCard
end Rows
end Go.Proofs.YthcljcjkfhiicaaGreatDoor
