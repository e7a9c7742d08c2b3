/- Contracts: what the functions of this part return, for arguments as each contract says. -/
import Derived.Test.YteniekdaincioaaDoorEvD
import Derived.Test.YteniekdaincioaaDoorEvTab
import Derived.Test.YteniekdaincioaaDoorSTy
import Derived.Test.YteniekdaincioaaDoorSKb
import Derived.Test.YteniekdaincioaaDoorSLb
import Derived.Test.YteniekdaincioaaDoorSMk
set_option linter.constructorNameAsVariable false
set_option linter.unusedVariables false
set_option linter.unusedSimpArgs false
set_option linter.unusedVariables false
set_option maxHeartbeats 4000000
set_option maxRecDepth 20000
set_option linter.unusedSimpArgs false
set_option linter.constructorNameAsVariable false
namespace Go.Proofs.YteniekdaincioaaDoor.Ev
open Go Go.Proofs
attribute [local irreducible] RO Fn IntKind.wrap TriL
def mRec1 (k : Int) : Rec := ⟨mtext k, k + 1, k + 2⟩
def mRec (k0 : Int) (n : Nat) : List Rec := (List.range n).map fun i : Nat => mRec1 (k0 + 3 * (i : Int))
@[simp] theorem mRec_len (k0 : Int) (n : Nat) : (mRec k0 n).length = n := by simp [mRec]
end Go.Proofs.YteniekdaincioaaDoor.Ev
