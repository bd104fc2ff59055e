/- The walk of param, part 12: one value read. No conditions. -/
import Derived.Test.YtbchceojmblkkaaGreatDoorBM
set_option linter.unusedVariables false
set_option linter.unusedSimpArgs false
namespace Go.Vs.U8
end Go.Vs.U8
namespace Go.Vs.Pa
end Go.Vs.Pa
namespace Go.Vs.YtbchceojmblkkaaGreatDoor
set_option linter.unusedSimpArgs false
set_option linter.unusedVariables false
open Go.Proofs Go.Vs.U8 Go.Vs.Pa
set_option maxRecDepth 100000
set_option maxHeartbeats 4000000
def run (p : UInt8 → Bool) : Str → Nat
 | [] => 0
 | c :: r => if p c then run p r + 1 else 0
def notq (c : UInt8) : Bool := decide (c.toNat ≠ 34)
def plain (c : UInt8) : Bool := !stp c && notq c
inductive Got where
 | no (e : Int) (p : Int)
 | ok (v : Str) (n : Nat)
def checked (raw : Str) (a f : Nat) : Got := match odd raw with
 | some k => .no 10 (f + k)
 | none => if 60 < (meant raw).length then .no 5 a else .ok (meant raw) 0
end Go.Vs.YtbchceojmblkkaaGreatDoor
