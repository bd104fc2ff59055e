/- A part of a proof. No conditions. -/
import Derived.Test.YtcjeehebikeghaaGreatDoorBK
set_option linter.unusedVariables false
set_option linter.unusedSimpArgs false
set_option maxRecDepth 100000
set_option maxHeartbeats 4000000
namespace Go.Vs.YtcjeehebikeghaaGreatDoor
open Go.Proofs Go.Vs.U8 Go.Vs.Pa
def run(p:UInt8->Bool):Str->Nat
 |[]=>0
 |c::r=>if p c then run p r+1 else 0
def Xl(c:UInt8):Bool:=decide (c.toNat≠34)
def plain(c:UInt8):Bool:=!XE c&&Xl c
inductive Got where
 |no (e:Int) (p:Int)
 |ok (v:Str) (n:Nat)
def checked(raw:Str)(a f:Nat):Got:=match zz raw with
 |some k=>.no 10 (f+k)
 |none=>if 60<(CU raw).length then .no 5 a else .ok (CU raw) 0
end Go.Vs.YtcjeehebikeghaaGreatDoor
