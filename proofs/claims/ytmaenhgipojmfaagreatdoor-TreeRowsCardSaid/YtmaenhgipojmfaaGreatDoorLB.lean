/- What the condition 'laid' of this seat's statements gives: the known globals. No conditions. -/
import Derived.Test.YtmaenhgipojmfaaGreatDoorLA
import Derived.Test.YtmaenhgipojmfaaGreatDoorCards
import Derived.Test.YtmaenhgipojmfaaGreatDoorTie
import Derived.SevenTiedAt
set_option linter.unusedVariables false
set_option linter.unusedSimpArgs false
set_option maxRecDepth 100000
namespace Go.Vs.YtmaenhgipojmfaaGreatDoor
open Go.Proofs Go.Proofs.YtmaenhgipojmfaaGreatDoor Go.RowKit Go.Lib
def La:List (String×DataW Unit):=[("unicode/utf8.acceptRanges",Rows.laid_unicode_utf8_acceptRanges),("errors.errorType",Rows.laid_errors_errorType),("unicode/utf8.first",Rows.laid_unicode_utf8_first)]
theorem k9 {W:World} (h:laidMetH Tryz.prog La W):∀ p,p∈G→fG W (C9 W) p:=by
 have h':laidMet Tryz.prog [("unicode/utf8.acceptRanges",Rows.laid_unicode_utf8_acceptRanges),("unicode/utf8.first",Rows.laid_unicode_utf8_first)] W∧handlesMet Tryz.prog [("errors.errorType",Rows.laid_errors_errorType)] W:=h
 obtain ⟨u1,u2⟩:=Nt (ER h'.1 (by simp)) (ER h'.1 (by simp))
 have e1:=Ns h'.2
 intro p hp
 simp only[G,List.mem_cons,List.not_mem_nil,or_false] at hp
 rcases hp with rfl | rfl | rfl
 ·exact e1
 ·exact u1
 ·exact u2
end Go.Vs.YtmaenhgipojmfaaGreatDoor
set_option maxRecDepth 100000
namespace Go.Vs.YtmaenhgipojmfaaGreatDoor
open Go.Proofs Go.Proofs.YtmaenhgipojmfaaGreatDoor Go.RowKit
noncomputable def ka (os:Os):World:=
 let w0:=World.holding Tryz.prog os ⟨#[],#[],[]⟩
 {w0 with heap:=((w0.heap.modify 0 fun
   | .cells _ t frozen=>.cells #[.iface 161 (.agg #[.pointer (some ⟨4,25,none⟩)])] t frozen
   | o=>o).modify 2 fun
   | .cells _ t frozen=>.cells (sb.map (Value.int .u8 ·)).toArray t frozen
   | o=>o).modify 3 fun
   | .cells _ t frozen=>.cells (FF.map (Value.int .u8 ·)).toArray t frozen
   | o=>o }
theorem fY (os:Os) (args:Array Value):laidMetH Tryz.prog La ((ka os).forCall (fun _ _=>0) ⟨#[],args,[]⟩).memory:=
 laidMetH_of_parts (laidMet_of_run' 8 (by kernel_rfl) (by kernel_rfl)) (by kernel_rfl)
theorem pO:ownKnob Tryz.prog.godebug=none:=by kernel_rfl
theorem pP:laidOutB Tryz.prog=true:=by kernel_rfl
end Go.Vs.YtmaenhgipojmfaaGreatDoor
