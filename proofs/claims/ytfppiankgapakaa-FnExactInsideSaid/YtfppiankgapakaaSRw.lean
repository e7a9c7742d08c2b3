/- Contracts: what the functions of this part return, for arguments as each contract says. -/
import Derived.Test.YtfppiankgapakaaEvD
import Derived.Test.YtfppiankgapakaaEvTab
import Derived.Test.YtfppiankgapakaaSTy
import Derived.Test.YtfppiankgapakaaSKb
import Derived.Test.YtfppiankgapakaaSLb
set_option linter.constructorNameAsVariable false
set_option linter.unusedVariables false
set_option linter.unusedSimpArgs false
set_option linter.unusedVariables false
set_option maxHeartbeats 4000000
set_option maxRecDepth 20000
set_option linter.unusedSimpArgs false
set_option linter.constructorNameAsVariable false
namespace Go.Proofs.Ytfppiankgapakaa.Ev
open Go Go.Proofs
attribute [local irreducible] RO Fn IntKind.wrap TriL
/- Rank -/
def Row.rank (r : Row) : Int := if r.kind = 1 then r.sum else if r.kind = 2 then r.last else if r.kind = 3 then r.total else 0
def add64 (a b : Int) : Int := IntKind.i64.wrap (a + b)
def mergeRow (a b : Row) : Row :=
  if a = Row.zero then b else if a.key ≠ b.key ∨ a.kind ≠ b.kind then a else
  { key := a.key, kind := a.kind, sum := (a.sum + b.sum) % 281474976710656, set := a.set || b.set, last := if b.set then b.last else a.last,
    n := add64 a.n b.n, min := if a.n = 0 then b.min else if b.n > 0 then (if b.min < a.min then b.min else a.min) else a.min,
    max := if a.n = 0 then b.max else if b.n > 0 then (if b.max > a.max then b.max else a.max) else a.max, total := add64 a.total b.total, dropped := add64 a.dropped b.dropped }
end Go.Proofs.Ytfppiankgapakaa.Ev
