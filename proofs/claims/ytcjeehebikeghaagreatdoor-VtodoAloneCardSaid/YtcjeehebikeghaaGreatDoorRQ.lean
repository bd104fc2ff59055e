/- A part of a proof. No conditions. -/
import Derived.Test.YtcjeehebikeghaaGreatDoorRO
set_option linter.unusedVariables false
set_option linter.unusedSimpArgs false
set_option maxRecDepth 100000
set_option maxHeartbeats 32000000
namespace Go.Vs.YtcjeehebikeghaaGreatDoor.Rc
open Go.Proofs Go.Vs.U8 Go.Vs.Pa Go.Vs.Cv Go.Vs.Mo Go.Vs.Nu Go.Lib
def sp(l:List (Nat×Str)):Str:=join (tx l) [59]
def addS(b:Bool)(k:Nat)(v:Str):Str:=if b=true then 59::eqS k v else []
end Go.Vs.YtcjeehebikeghaaGreatDoor.Rc
