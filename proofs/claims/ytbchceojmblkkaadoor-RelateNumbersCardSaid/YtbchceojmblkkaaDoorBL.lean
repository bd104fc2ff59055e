/- The walk of the library's search for any of some bytes, at the signs that end a value. No conditions. -/
import Derived.Test.YtbchceojmblkkaaDoorBK
import Derived.Test.YtbchceojmblkkaaDoorBJ
set_option linter.unusedVariables false
set_option linter.unusedSimpArgs false
namespace Go.Vs.YtbchceojmblkkaaDoor
set_option linter.unusedSimpArgs false
set_option linter.unusedVariables false
open Go.Proofs Go.Vs.U8 Go.Vs.Pa
set_option maxRecDepth 100000
set_option maxHeartbeats 4000000
end Go.Vs.YtbchceojmblkkaaDoor
namespace Go.Vs.YtbchceojmblkkaaDoor
set_option linter.unusedSimpArgs false
set_option linter.unusedVariables false
open Go.Proofs Go.Vs.U8 Go.Vs.Pa
set_option maxRecDepth 100000
set_option maxHeartbeats 4000000
/-- A text's parts between bytes of a kind. -/
def parts (c : UInt8) : Str → List Str
  | [] => [[]]
  | x :: r => if x = c then [] :: parts c r else match parts c r with
    | [] => [[x]]
    | p :: ps => (x :: p) :: ps
theorem ts_len (d : List Str) : (ts d).length = d.length := by simp [ts]
end Go.Vs.YtbchceojmblkkaaDoor
namespace Go.Vs.YtbchceojmblkkaaDoor
set_option linter.unusedSimpArgs false
set_option linter.unusedVariables false
open Go.Proofs Go.Vs.U8 Go.Vs.Pa
set_option maxRecDepth 100000
set_option maxHeartbeats 4000000
end Go.Vs.YtbchceojmblkkaaDoor
namespace Go.Vs.YtbchceojmblkkaaDoor
set_option linter.unusedSimpArgs false
set_option linter.unusedVariables false
open Go.Proofs Go.Vs.U8 Go.Vs.Pa
set_option maxRecDepth 100000
set_option maxHeartbeats 4000000
/-- A parameter. -/
structure Pm where
  n : Str
  v : List Str
  deriving DecidableEq
def Pm.iv (p : Pm) : IV := .agg [.str p.n, .slice (ts p.v)]
def ps (l : List Pm) : List (List IV) := l.map fun p => [.str p.n, .slice (ts p.v)]
theorem ps_len (l : List Pm) : (ps l).length = l.length := by simp [ps]
theorem ts_get {d : List Str} {i : Nat} {x : Str} (h : i < d.length) (hx : d[i] = x) : (ts d)[i]? = some [.str x] := by simp [ts, h, hx]
theorem ps_get {d : List Pm} {i : Nat} {x : Pm} (h : i < d.length) (hx : d[i] = x) : (ps d)[i]? = some [.str x.n, .slice (ts x.v)] := by simp [ps, h, hx]
end Go.Vs.YtbchceojmblkkaaDoor
