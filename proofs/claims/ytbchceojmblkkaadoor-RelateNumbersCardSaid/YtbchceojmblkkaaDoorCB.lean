/- The walk of line, part 1: lines compared, copied, found. No conditions. -/
import Derived.Test.YtbchceojmblkkaaDoorCA
set_option linter.unusedVariables false
set_option linter.unusedSimpArgs false
namespace Go.Vs.YtbchceojmblkkaaDoor
set_option linter.unusedSimpArgs false
set_option linter.unusedVariables false
open Go.Proofs Go.Vs.U8 Go.Vs.Pa
set_option maxRecDepth 100000
set_option maxHeartbeats 8000000
structure Ln where
  n : Str
  p : List Pm
  v : Str
  deriving DecidableEq
def Ln.iv (x : Ln) : IV := .agg [.str x.n, .slice (ps x.p), .str x.v]
def ls (l : List Ln) : List (List IV) := l.map fun x => [.str x.n, .slice (ps x.p), .str x.v]
theorem ls_len (l : List Ln) : (ls l).length = l.length := by simp [ls]
theorem ls_get {d : List Ln} {i : Nat} {x : Ln} (h : i < d.length) (hx : d[i] = x) : (ls d)[i]? = some [.str x.n, .slice (ps x.p), .str x.v] := by simp [ls, h, hx]
theorem ls_snoc (l : List Ln) (x : Ln) : ls (l ++ [x]) = ls l ++ [[.str x.n, .slice (ps x.p), .str x.v]] := by simp [ls]
/-- Sizes that may be. -/
structure FitX (x : Ln) : Prop where
  n : x.n.length < 100000
  p : x.p.length < 100000
  f : Fit x.p
  v : x.v.length < 100000
def FitL (l : List Ln) : Prop := ∀ x ∈ l, FitX x
end Go.Vs.YtbchceojmblkkaaDoor
