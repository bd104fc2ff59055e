/- The walk of param, part 15: parameters read. No conditions. -/
import Derived.Test.YtbchceojmblkkaaGreatDoorBN
import Derived.Test.YtbchceojmblkkaaGreatDoorBM
set_option linter.unusedVariables false
set_option linter.unusedSimpArgs false
namespace Go.Vs.U8
end Go.Vs.U8
namespace Go.Vs.Pa
end Go.Vs.Pa
namespace Go.Vs.YtbchceojmblkkaaGreatDoor
set_option linter.unusedSimpArgs false
set_option linter.unusedVariables false
open Go.Proofs Go.Vs.U8 Go.Vs.Pa
set_option maxRecDepth 100000
set_option maxHeartbeats 8000000
theorem loopUR {P : Program} (hm : P.follows .mixedOrders = true) {ι : Type} (D : List Nat) (ro : List Nat) (E : ι → List (Nat × SV)) (O : ι → List (Nat × Ob)) (A : ι → Prop) (m : ι → Nat) (i0 : ι) {b : VCode} {Q : Exit → St → Prop} {σ : St} (hA : A i0) (h0 : Weak σ { σ.upd D (E i0) (O i0) with ro := ro })
  (round : ∀ i, A i → pw P b (fun e σ' => match e with
    | .normal => @LoopEnd ι σ' (m i) ⟨fun i => { σ.upd D (E i) (O i) with ro := ro }⟩ ⟨A⟩ ⟨m⟩
    | e => Q e σ') { σ.upd D (E i) (O i) with ro := ro }) : @TVW P σ ⟨.loop b⟩ ⟨Q⟩ := loopW hm (fun i => { σ.upd D (E i) (O i) with ro := ro }) A m i0 hA h0 (fun _ => _root_.id rfl) round
end Go.Vs.YtbchceojmblkkaaGreatDoor
