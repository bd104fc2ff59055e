/- The statement TreeRows holds at every input: the row. No conditions. -/
import Derived.Test.YtmaenhgipojmfaaGreatDoorKR1
import Derived.Test.YtmaenhgipojmfaaGreatDoorKR2
set_option linter.unusedVariables false
set_option linter.unusedSimpArgs false
set_option maxRecDepth 100000
set_option maxHeartbeats 4000000
namespace Go.Proofs.YtmaenhgipojmfaaGreatDoor
open Go.Vs Go.Vs.YtmaenhgipojmfaaGreatDoor Go.RowKit Go.ChangeShapes Go.WideShapes
theorem zw:Rows.TreeRowsSaid:=
 OpenClaim.holds_of_wide (p:=Tryz.pinned) (s:=Rows.treeRowsSpec) (c:=Rows.treeRowsRow) 7 Tryz.f7 rfl rfl rfl rfl rfl rfl rfl ⟨rfl,rfl,rfl,rfl,rfl⟩ rfl rfl rfl rfl rfl (by kernel_rfl) Tryz.func7 (by
   unfold joinedFacts
   simp only[Bool.and_eq_true]
   and_intros
   ·kernel_rfl
   ·kernel_rfl
   ·kernel_rfl
   ·kernel_rfl
   ·kernel_rfl
   ·kernel_rfl
   ·kernel_rfl
   ·kernel_rfl
   ·kernel_rfl
   ·exact F0
   ·exact F1
   ·exact F2
   ·exact F3
   ·kernel_rfl
   ·kernel_rfl
   ·kernel_rfl
   ·kernel_rfl
   ·kernel_rfl
   ·kernel_rfl
   ·kernel_rfl
   ·kernel_rfl
   ·kernel_rfl
   ·kernel_rfl
   ·kernel_rfl
   ·kernel_rfl
   ·kernel_rfl
   ·kernel_rfl
   ·kernel_rfl
   ·kernel_rfl
   ·kernel_rfl
   ·kernel_rfl
   ·kernel_rfl)
  (of_decide_eq_true (by kernel_rfl)) (by unfold Func.isWrapper;first | (rw[if_pos (by decide +kernel)];kernel_rfl) | (rw[if_neg (by decide +kernel)];exact ⟨rfl,rfl⟩))
  (fun os started H enc _=>wP os started H enc)
end Go.Proofs.YtmaenhgipojmfaaGreatDoor
