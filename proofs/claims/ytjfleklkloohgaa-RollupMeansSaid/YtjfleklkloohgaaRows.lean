/-
  No cell of these rows narrows 'for every input' (looked for: loops, veiled, ifaces, maps, wideKeys, modest, calm, conditions, laid).
  DERIVED. THE GIVEN ROWS OF THIS SEAT. 13 by the template 'for every input the law returns true; each argument reads behind the call as it read before'; 0 by the template 'total and deterministic' (their statements: YtjfleklkloohgaaTotals.lean).
  GIVEN WITH THE SEED: the statements are not yours to turn. If you find one false, say at which input.
  Laid BY PROGRAM, IN A SANDBOX (cutbox-rows.mjs): the forced cells as the released guide's own fill.sh prints them over the translation ec75f9c064bf2a01… (all of the seat's roots in one cut). By AI agents, Wed Nov 11 2026. No macro, syntax, notation, axiom, sorry.
-/
import Derived.Test.YtjfleklkloohgaaChecked
import GoSem.Claim
import GoSem.ClaimJoined
import GoSem.ClaimMapViews
import Derived.JoinedTies
import Derived.KernelRfl
namespace Go.Proofs.Ytjfleklkloohgaa
/- THE CELL 'sum', in the pinned program and in every row, IS THE sha256 OF THE DUMP (.gsa) THAT YtjfleklkloohgaaProg.lean LOADS. Nothing in Lean hashes anything: it is a label: what it is worth is what the hold of that sum in a sandbox is worth. -/
noncomputable def Try.pinned : Pinned := { name := "ytjfleklkloohgaa", sum := "ec75f9c064bf2a0144483a891856b22161e0e87ec8db4f5f765b205ea7d1deb5", checked := Try.checked }
namespace Rows
def none {H : Type} : Left H := { results := [], args := [] }

/-- 'errandlaw27.StatusActs': WHATEVER THE INPUT: true; the input reads as it did. -/
def statusActsSpec : ChangeSpec := { name := "statusActs", fn := fun _ => fun
  | [d1, d2] => { results := [.lit (.bool true)], args := [d1, d2] }
  | _ => none }
def statusActsRow : OpenClaim := { program := "ytjfleklkloohgaa", sum := "ec75f9c064bf2a0144483a891856b22161e0e87ec8db4f5f765b205ea7d1deb5", func := "errand/errandlaw27.StatusActs", spec := "statusActs", apart := false }
def StatusActsSaid : Prop := statusActsRow.holds Try.pinned (OpenSpec.ofChange statusActsSpec)

/-- ITS FALSE NEIGHBOUR: 'it returns false'. Refute it at one input. -/
def statusActsWrong : ChangeSpec := { name := "statusActs", fn := fun _ => fun
  | [d1, d2] => { results := [.lit (.bool false)], args := [d1, d2] }
  | _ => none }
def StatusActsWrongFalsely : Prop := statusActsRow.holds Try.pinned (OpenSpec.ofChange statusActsWrong)

/-- 'errandlaw27.StatusTells': WHATEVER THE INPUT: true; the input reads as it did. -/
def statusTellsSpec : ChangeSpec := { name := "statusTells", fn := fun _ => fun
  | [d1, d2] => { results := [.lit (.bool true)], args := [d1, d2] }
  | _ => none }
def statusTellsRow : OpenClaim := { program := "ytjfleklkloohgaa", sum := "ec75f9c064bf2a0144483a891856b22161e0e87ec8db4f5f765b205ea7d1deb5", func := "errand/errandlaw27.StatusTells", spec := "statusTells", apart := false }
def StatusTellsSaid : Prop := statusTellsRow.holds Try.pinned (OpenSpec.ofChange statusTellsSpec)

/-- ITS FALSE NEIGHBOUR: 'it returns false'. Refute it at one input. -/
def statusTellsWrong : ChangeSpec := { name := "statusTells", fn := fun _ => fun
  | [d1, d2] => { results := [.lit (.bool false)], args := [d1, d2] }
  | _ => none }
def StatusTellsWrongFalsely : Prop := statusTellsRow.holds Try.pinned (OpenSpec.ofChange statusTellsWrong)

/-- 'errandlaw27.StatusKeeps': WHATEVER THE INPUT: true; the input reads as it did. -/
def statusKeepsSpec : ChangeSpec := { name := "statusKeeps", fn := fun _ => fun
  | [d] => { results := [.lit (.bool true)], args := [d] }
  | _ => none }
def statusKeepsRow : OpenClaim := { program := "ytjfleklkloohgaa", sum := "ec75f9c064bf2a0144483a891856b22161e0e87ec8db4f5f765b205ea7d1deb5", func := "errand/errandlaw27.StatusKeeps", spec := "statusKeeps", apart := false }
def StatusKeepsSaid : Prop := statusKeepsRow.holds Try.pinned (OpenSpec.ofChange statusKeepsSpec)

/-- ITS FALSE NEIGHBOUR: 'it returns false'. Refute it at one input. -/
def statusKeepsWrong : ChangeSpec := { name := "statusKeeps", fn := fun _ => fun
  | [d] => { results := [.lit (.bool false)], args := [d] }
  | _ => none }
def StatusKeepsWrongFalsely : Prop := statusKeepsRow.holds Try.pinned (OpenSpec.ofChange statusKeepsWrong)

/-- 'errandlaw27.StatusNames': WHATEVER THE INPUT: true; the input reads as it did. -/
def statusNamesSpec : ChangeSpec := { name := "statusNames", fn := fun _ => fun
  | [d1, d2] => { results := [.lit (.bool true)], args := [d1, d2] }
  | _ => none }
def statusNamesRow : OpenClaim := { program := "ytjfleklkloohgaa", sum := "ec75f9c064bf2a0144483a891856b22161e0e87ec8db4f5f765b205ea7d1deb5", func := "errand/errandlaw27.StatusNames", spec := "statusNames", apart := false }
def StatusNamesSaid : Prop := statusNamesRow.holds Try.pinned (OpenSpec.ofChange statusNamesSpec)

/-- ITS FALSE NEIGHBOUR: 'it returns false'. Refute it at one input. -/
def statusNamesWrong : ChangeSpec := { name := "statusNames", fn := fun _ => fun
  | [d1, d2] => { results := [.lit (.bool false)], args := [d1, d2] }
  | _ => none }
def StatusNamesWrongFalsely : Prop := statusNamesRow.holds Try.pinned (OpenSpec.ofChange statusNamesWrong)

/-- 'errandlaw32.ForestTells': WHATEVER THE INPUT: true; the input reads as it did. -/
def forestTellsSpec : ChangeSpec := { name := "forestTells", fn := fun _ => fun
  | [d1, d2] => { results := [.lit (.bool true)], args := [d1, d2] }
  | _ => none }
def forestTellsRow : OpenClaim := { program := "ytjfleklkloohgaa", sum := "ec75f9c064bf2a0144483a891856b22161e0e87ec8db4f5f765b205ea7d1deb5", func := "errand/errandlaw32.ForestTells", spec := "forestTells", unfollowed := true, recurses := true, apart := false }
def ForestTellsSaid : Prop := forestTellsRow.holds Try.pinned (OpenSpec.ofChange forestTellsSpec)

/-- ITS FALSE NEIGHBOUR: 'it returns false'. Refute it at one input. -/
def forestTellsWrong : ChangeSpec := { name := "forestTells", fn := fun _ => fun
  | [d1, d2] => { results := [.lit (.bool false)], args := [d1, d2] }
  | _ => none }
def ForestTellsWrongFalsely : Prop := forestTellsRow.holds Try.pinned (OpenSpec.ofChange forestTellsWrong)

/-- 'errandlaw32.ForestChanges': WHATEVER THE INPUT: true; the input reads as it did. -/
def forestChangesSpec : ChangeSpec := { name := "forestChanges", fn := fun _ => fun
  | [d1, d2] => { results := [.lit (.bool true)], args := [d1, d2] }
  | _ => none }
def forestChangesRow : OpenClaim := { program := "ytjfleklkloohgaa", sum := "ec75f9c064bf2a0144483a891856b22161e0e87ec8db4f5f765b205ea7d1deb5", func := "errand/errandlaw32.ForestChanges", spec := "forestChanges", unfollowed := true, recurses := true, apart := false }
def ForestChangesSaid : Prop := forestChangesRow.holds Try.pinned (OpenSpec.ofChange forestChangesSpec)

/-- ITS FALSE NEIGHBOUR: 'it returns false'. Refute it at one input. -/
def forestChangesWrong : ChangeSpec := { name := "forestChanges", fn := fun _ => fun
  | [d1, d2] => { results := [.lit (.bool false)], args := [d1, d2] }
  | _ => none }
def ForestChangesWrongFalsely : Prop := forestChangesRow.holds Try.pinned (OpenSpec.ofChange forestChangesWrong)

/-- 'errandlaw32.ForestKeeps': WHATEVER THE INPUT: true; the input reads as it did. -/
def forestKeepsSpec : ChangeSpec := { name := "forestKeeps", fn := fun _ => fun
  | [d] => { results := [.lit (.bool true)], args := [d] }
  | _ => none }
def forestKeepsRow : OpenClaim := { program := "ytjfleklkloohgaa", sum := "ec75f9c064bf2a0144483a891856b22161e0e87ec8db4f5f765b205ea7d1deb5", func := "errand/errandlaw32.ForestKeeps", spec := "forestKeeps", unfollowed := true, recurses := true, apart := false }
def ForestKeepsSaid : Prop := forestKeepsRow.holds Try.pinned (OpenSpec.ofChange forestKeepsSpec)

/-- ITS FALSE NEIGHBOUR: 'it returns false'. Refute it at one input. -/
def forestKeepsWrong : ChangeSpec := { name := "forestKeeps", fn := fun _ => fun
  | [d] => { results := [.lit (.bool false)], args := [d] }
  | _ => none }
def ForestKeepsWrongFalsely : Prop := forestKeepsRow.holds Try.pinned (OpenSpec.ofChange forestKeepsWrong)

/-- 'errandlaw32.ForestUnder': WHATEVER THE INPUT: true; the input reads as it did. -/
def forestUnderSpec : ChangeSpec := { name := "forestUnder", fn := fun _ => fun
  | [d1, d2, d3] => { results := [.lit (.bool true)], args := [d1, d2, d3] }
  | _ => none }
def forestUnderRow : OpenClaim := { program := "ytjfleklkloohgaa", sum := "ec75f9c064bf2a0144483a891856b22161e0e87ec8db4f5f765b205ea7d1deb5", func := "errand/errandlaw32.ForestUnder", spec := "forestUnder", unfollowed := true, recurses := true, apart := false }
def ForestUnderSaid : Prop := forestUnderRow.holds Try.pinned (OpenSpec.ofChange forestUnderSpec)

/-- ITS FALSE NEIGHBOUR: 'it returns false'. Refute it at one input. -/
def forestUnderWrong : ChangeSpec := { name := "forestUnder", fn := fun _ => fun
  | [d1, d2, d3] => { results := [.lit (.bool false)], args := [d1, d2, d3] }
  | _ => none }
def ForestUnderWrongFalsely : Prop := forestUnderRow.holds Try.pinned (OpenSpec.ofChange forestUnderWrong)

/-- 'errandlaw33.RollupTells': WHATEVER THE INPUT: true; the input reads as it did. -/
def rollupTellsSpec : ChangeSpec := { name := "rollupTells", fn := fun _ => fun
  | [d1, d2] => { results := [.lit (.bool true)], args := [d1, d2] }
  | _ => none }
def rollupTellsRow : OpenClaim := { program := "ytjfleklkloohgaa", sum := "ec75f9c064bf2a0144483a891856b22161e0e87ec8db4f5f765b205ea7d1deb5", func := "errand/errandlaw33.RollupTells", spec := "rollupTells", unfollowed := true, recurses := true, apart := false }
def RollupTellsSaid : Prop := rollupTellsRow.holds Try.pinned (OpenSpec.ofChange rollupTellsSpec)

/-- ITS FALSE NEIGHBOUR: 'it returns false'. Refute it at one input. -/
def rollupTellsWrong : ChangeSpec := { name := "rollupTells", fn := fun _ => fun
  | [d1, d2] => { results := [.lit (.bool false)], args := [d1, d2] }
  | _ => none }
def RollupTellsWrongFalsely : Prop := rollupTellsRow.holds Try.pinned (OpenSpec.ofChange rollupTellsWrong)

/-- 'errandlaw33.RollupMeans': WHATEVER THE INPUT: true; the input reads as it did. -/
def rollupMeansSpec : ChangeSpec := { name := "rollupMeans", fn := fun _ => fun
  | [d] => { results := [.lit (.bool true)], args := [d] }
  | _ => none }
def rollupMeansRow : OpenClaim := { program := "ytjfleklkloohgaa", sum := "ec75f9c064bf2a0144483a891856b22161e0e87ec8db4f5f765b205ea7d1deb5", func := "errand/errandlaw33.RollupMeans", spec := "rollupMeans", unfollowed := true, recurses := true, apart := false }
def RollupMeansSaid : Prop := rollupMeansRow.holds Try.pinned (OpenSpec.ofChange rollupMeansSpec)

/-- ITS FALSE NEIGHBOUR: 'it returns false'. Refute it at one input. -/
def rollupMeansWrong : ChangeSpec := { name := "rollupMeans", fn := fun _ => fun
  | [d] => { results := [.lit (.bool false)], args := [d] }
  | _ => none }
def RollupMeansWrongFalsely : Prop := rollupMeansRow.holds Try.pinned (OpenSpec.ofChange rollupMeansWrong)

/-- 'errandlaw33.RollupFloor': WHATEVER THE INPUT: true; the input reads as it did. -/
def rollupFloorSpec : ChangeSpec := { name := "rollupFloor", fn := fun _ => fun
  | [d] => { results := [.lit (.bool true)], args := [d] }
  | _ => none }
def rollupFloorRow : OpenClaim := { program := "ytjfleklkloohgaa", sum := "ec75f9c064bf2a0144483a891856b22161e0e87ec8db4f5f765b205ea7d1deb5", func := "errand/errandlaw33.RollupFloor", spec := "rollupFloor", unfollowed := true, recurses := true, apart := false }
def RollupFloorSaid : Prop := rollupFloorRow.holds Try.pinned (OpenSpec.ofChange rollupFloorSpec)

/-- ITS FALSE NEIGHBOUR: 'it returns false'. Refute it at one input. -/
def rollupFloorWrong : ChangeSpec := { name := "rollupFloor", fn := fun _ => fun
  | [d] => { results := [.lit (.bool false)], args := [d] }
  | _ => none }
def RollupFloorWrongFalsely : Prop := rollupFloorRow.holds Try.pinned (OpenSpec.ofChange rollupFloorWrong)

/-- 'errandlaw33.RollupDone': WHATEVER THE INPUT: true; the input reads as it did. -/
def rollupDoneSpec : ChangeSpec := { name := "rollupDone", fn := fun _ => fun
  | [d] => { results := [.lit (.bool true)], args := [d] }
  | _ => none }
def rollupDoneRow : OpenClaim := { program := "ytjfleklkloohgaa", sum := "ec75f9c064bf2a0144483a891856b22161e0e87ec8db4f5f765b205ea7d1deb5", func := "errand/errandlaw33.RollupDone", spec := "rollupDone", unfollowed := true, recurses := true, apart := false }
def RollupDoneSaid : Prop := rollupDoneRow.holds Try.pinned (OpenSpec.ofChange rollupDoneSpec)

/-- ITS FALSE NEIGHBOUR: 'it returns false'. Refute it at one input. -/
def rollupDoneWrong : ChangeSpec := { name := "rollupDone", fn := fun _ => fun
  | [d] => { results := [.lit (.bool false)], args := [d] }
  | _ => none }
def RollupDoneWrongFalsely : Prop := rollupDoneRow.holds Try.pinned (OpenSpec.ofChange rollupDoneWrong)

/-- 'errandlaw33.RollupOrder': WHATEVER THE INPUT: true; the input reads as it did. -/
def rollupOrderSpec : ChangeSpec := { name := "rollupOrder", fn := fun _ => fun
  | [d1, d2] => { results := [.lit (.bool true)], args := [d1, d2] }
  | _ => none }
def rollupOrderRow : OpenClaim := { program := "ytjfleklkloohgaa", sum := "ec75f9c064bf2a0144483a891856b22161e0e87ec8db4f5f765b205ea7d1deb5", func := "errand/errandlaw33.RollupOrder", spec := "rollupOrder", unfollowed := true, recurses := true, apart := false }
def RollupOrderSaid : Prop := rollupOrderRow.holds Try.pinned (OpenSpec.ofChange rollupOrderSpec)

/-- ITS FALSE NEIGHBOUR: 'it returns false'. Refute it at one input. -/
def rollupOrderWrong : ChangeSpec := { name := "rollupOrder", fn := fun _ => fun
  | [d1, d2] => { results := [.lit (.bool false)], args := [d1, d2] }
  | _ => none }
def RollupOrderWrongFalsely : Prop := rollupOrderRow.holds Try.pinned (OpenSpec.ofChange rollupOrderWrong)

/- THE SECOND FORM. 'bulk': how many values and letters a reading holds, each counted each time it is reached (what is shared counts as often as it is met; a slice's spare places count too). A statement '..UptoSaid' is the law's where the arguments, and the package variables that the reading takes, are together of bulk at most 1048576: NARROWER than '..Said'. Prove '..Said' where nothing that the law and all that it calls make is longer than what came in: it says more and counts as full. Else prove '..UptoSaid'. A law counts once. -/
mutual
def uptoBulk {H : Type} : DataW H → Nat
  | .lit (.string bytes) => bytes.length + 1
  | .lit _ => 1
  | .nil => 1
  | .ptr d => uptoBulk d + 1
  | .slice elems spare => uptoBulkAll elems + uptoBulkAll spare + 1
  | .agg parts => uptoBulkAll parts + 1
  | .iface _ d => uptoBulk d + 1
  | .map entries => uptoBulkEntries entries + 1
  | .held _ => 1
def uptoBulkAll {H : Type} : List (DataW H) → Nat
  | [] => 0
  | d :: r => uptoBulk d + uptoBulkAll r
def uptoBulkEntries {H : Type} : List (Lit × DataW H) → Nat
  | [] => 0
  | x :: r => uptoBulkEntry x + uptoBulkEntries r
def uptoBulkEntry {H : Type} : Lit × DataW H → Nat
  | (.string bytes, d) => bytes.length + uptoBulk d + 1
  | (_, d) => uptoBulk d + 1
 end
def uptoSmall : (H : Type) → List (DataW H) → Bool := fun _ ds => decide (uptoBulkAll ds ≤ 1048576)
def OpenSpec.upto (s : _root_.Go.ChangeSpec) : _root_.Go.OpenSpec := { _root_.Go.OpenSpec.ofChange s with cond := some uptoSmall }

/-- 'errandlaw27.StatusActs', WHERE WHAT IT READS IS OF BULK AT MOST 1048576: true; the input reads as it did. -/
def statusActsUptoRow : OpenClaim := { program := "ytjfleklkloohgaa", sum := "ec75f9c064bf2a0144483a891856b22161e0e87ec8db4f5f765b205ea7d1deb5", func := "errand/errandlaw27.StatusActs", spec := "statusActs", apart := false, narrowed := true }
def StatusActsUptoSaid : Prop := statusActsUptoRow.holds Try.pinned (OpenSpec.upto statusActsSpec)

/-- 'errandlaw27.StatusTells', WHERE WHAT IT READS IS OF BULK AT MOST 1048576: true; the input reads as it did. -/
def statusTellsUptoRow : OpenClaim := { program := "ytjfleklkloohgaa", sum := "ec75f9c064bf2a0144483a891856b22161e0e87ec8db4f5f765b205ea7d1deb5", func := "errand/errandlaw27.StatusTells", spec := "statusTells", apart := false, narrowed := true }
def StatusTellsUptoSaid : Prop := statusTellsUptoRow.holds Try.pinned (OpenSpec.upto statusTellsSpec)

/-- 'errandlaw27.StatusKeeps', WHERE WHAT IT READS IS OF BULK AT MOST 1048576: true; the input reads as it did. -/
def statusKeepsUptoRow : OpenClaim := { program := "ytjfleklkloohgaa", sum := "ec75f9c064bf2a0144483a891856b22161e0e87ec8db4f5f765b205ea7d1deb5", func := "errand/errandlaw27.StatusKeeps", spec := "statusKeeps", apart := false, narrowed := true }
def StatusKeepsUptoSaid : Prop := statusKeepsUptoRow.holds Try.pinned (OpenSpec.upto statusKeepsSpec)

/-- 'errandlaw27.StatusNames', WHERE WHAT IT READS IS OF BULK AT MOST 1048576: true; the input reads as it did. -/
def statusNamesUptoRow : OpenClaim := { program := "ytjfleklkloohgaa", sum := "ec75f9c064bf2a0144483a891856b22161e0e87ec8db4f5f765b205ea7d1deb5", func := "errand/errandlaw27.StatusNames", spec := "statusNames", apart := false, narrowed := true }
def StatusNamesUptoSaid : Prop := statusNamesUptoRow.holds Try.pinned (OpenSpec.upto statusNamesSpec)

/-- 'errandlaw32.ForestTells', WHERE WHAT IT READS IS OF BULK AT MOST 1048576: true; the input reads as it did. -/
def forestTellsUptoRow : OpenClaim := { program := "ytjfleklkloohgaa", sum := "ec75f9c064bf2a0144483a891856b22161e0e87ec8db4f5f765b205ea7d1deb5", func := "errand/errandlaw32.ForestTells", spec := "forestTells", unfollowed := true, recurses := true, apart := false, narrowed := true }
def ForestTellsUptoSaid : Prop := forestTellsUptoRow.holds Try.pinned (OpenSpec.upto forestTellsSpec)

/-- 'errandlaw32.ForestChanges', WHERE WHAT IT READS IS OF BULK AT MOST 1048576: true; the input reads as it did. -/
def forestChangesUptoRow : OpenClaim := { program := "ytjfleklkloohgaa", sum := "ec75f9c064bf2a0144483a891856b22161e0e87ec8db4f5f765b205ea7d1deb5", func := "errand/errandlaw32.ForestChanges", spec := "forestChanges", unfollowed := true, recurses := true, apart := false, narrowed := true }
def ForestChangesUptoSaid : Prop := forestChangesUptoRow.holds Try.pinned (OpenSpec.upto forestChangesSpec)

/-- 'errandlaw32.ForestKeeps', WHERE WHAT IT READS IS OF BULK AT MOST 1048576: true; the input reads as it did. -/
def forestKeepsUptoRow : OpenClaim := { program := "ytjfleklkloohgaa", sum := "ec75f9c064bf2a0144483a891856b22161e0e87ec8db4f5f765b205ea7d1deb5", func := "errand/errandlaw32.ForestKeeps", spec := "forestKeeps", unfollowed := true, recurses := true, apart := false, narrowed := true }
def ForestKeepsUptoSaid : Prop := forestKeepsUptoRow.holds Try.pinned (OpenSpec.upto forestKeepsSpec)

/-- 'errandlaw32.ForestUnder', WHERE WHAT IT READS IS OF BULK AT MOST 1048576: true; the input reads as it did. -/
def forestUnderUptoRow : OpenClaim := { program := "ytjfleklkloohgaa", sum := "ec75f9c064bf2a0144483a891856b22161e0e87ec8db4f5f765b205ea7d1deb5", func := "errand/errandlaw32.ForestUnder", spec := "forestUnder", unfollowed := true, recurses := true, apart := false, narrowed := true }
def ForestUnderUptoSaid : Prop := forestUnderUptoRow.holds Try.pinned (OpenSpec.upto forestUnderSpec)

/-- 'errandlaw33.RollupTells', WHERE WHAT IT READS IS OF BULK AT MOST 1048576: true; the input reads as it did. -/
def rollupTellsUptoRow : OpenClaim := { program := "ytjfleklkloohgaa", sum := "ec75f9c064bf2a0144483a891856b22161e0e87ec8db4f5f765b205ea7d1deb5", func := "errand/errandlaw33.RollupTells", spec := "rollupTells", unfollowed := true, recurses := true, apart := false, narrowed := true }
def RollupTellsUptoSaid : Prop := rollupTellsUptoRow.holds Try.pinned (OpenSpec.upto rollupTellsSpec)

/-- 'errandlaw33.RollupMeans', WHERE WHAT IT READS IS OF BULK AT MOST 1048576: true; the input reads as it did. -/
def rollupMeansUptoRow : OpenClaim := { program := "ytjfleklkloohgaa", sum := "ec75f9c064bf2a0144483a891856b22161e0e87ec8db4f5f765b205ea7d1deb5", func := "errand/errandlaw33.RollupMeans", spec := "rollupMeans", unfollowed := true, recurses := true, apart := false, narrowed := true }
def RollupMeansUptoSaid : Prop := rollupMeansUptoRow.holds Try.pinned (OpenSpec.upto rollupMeansSpec)

/-- 'errandlaw33.RollupFloor', WHERE WHAT IT READS IS OF BULK AT MOST 1048576: true; the input reads as it did. -/
def rollupFloorUptoRow : OpenClaim := { program := "ytjfleklkloohgaa", sum := "ec75f9c064bf2a0144483a891856b22161e0e87ec8db4f5f765b205ea7d1deb5", func := "errand/errandlaw33.RollupFloor", spec := "rollupFloor", unfollowed := true, recurses := true, apart := false, narrowed := true }
def RollupFloorUptoSaid : Prop := rollupFloorUptoRow.holds Try.pinned (OpenSpec.upto rollupFloorSpec)

/-- 'errandlaw33.RollupDone', WHERE WHAT IT READS IS OF BULK AT MOST 1048576: true; the input reads as it did. -/
def rollupDoneUptoRow : OpenClaim := { program := "ytjfleklkloohgaa", sum := "ec75f9c064bf2a0144483a891856b22161e0e87ec8db4f5f765b205ea7d1deb5", func := "errand/errandlaw33.RollupDone", spec := "rollupDone", unfollowed := true, recurses := true, apart := false, narrowed := true }
def RollupDoneUptoSaid : Prop := rollupDoneUptoRow.holds Try.pinned (OpenSpec.upto rollupDoneSpec)

/-- 'errandlaw33.RollupOrder', WHERE WHAT IT READS IS OF BULK AT MOST 1048576: true; the input reads as it did. -/
def rollupOrderUptoRow : OpenClaim := { program := "ytjfleklkloohgaa", sum := "ec75f9c064bf2a0144483a891856b22161e0e87ec8db4f5f765b205ea7d1deb5", func := "errand/errandlaw33.RollupOrder", spec := "rollupOrder", unfollowed := true, recurses := true, apart := false, narrowed := true }
def RollupOrderUptoSaid : Prop := rollupOrderUptoRow.holds Try.pinned (OpenSpec.upto rollupOrderSpec)

end Rows
end Go.Proofs.Ytjfleklkloohgaa
