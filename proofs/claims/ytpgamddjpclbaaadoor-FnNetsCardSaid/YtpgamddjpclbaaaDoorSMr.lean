/- Contracts: what the functions of this part return, for arguments as each contract says. -/
import Derived.Test.YtpgamddjpclbaaaDoorEvD
import Derived.Test.YtpgamddjpclbaaaDoorEvTab
import Derived.Test.YtpgamddjpclbaaaDoorSTy
import Derived.Test.YtpgamddjpclbaaaDoorSKb
import Derived.Test.YtpgamddjpclbaaaDoorSLb
import Derived.Test.YtpgamddjpclbaaaDoorSMk
set_option linter.constructorNameAsVariable false
set_option linter.unusedVariables false
set_option linter.unusedSimpArgs false
set_option linter.unusedVariables false
set_option maxHeartbeats 4000000
set_option maxRecDepth 20000
set_option linter.unusedSimpArgs false
set_option linter.constructorNameAsVariable false
namespace Go.Proofs.YtpgamddjpclbaaaDoor.Ev
open Go Go.Proofs
attribute [local irreducible] RO Fn IntKind.wrap TriL
def mRec1 (k : Int) : Rec := ⟨mtext k, k + 1, k + 2⟩
def mRec (k0 : Int) (n : Nat) : List Rec := (List.range n).map fun i : Nat => mRec1 (k0 + 3 * (i : Int))
@[simp] theorem mRec_len (k0 : Int) (n : Nat) : (mRec k0 n).length = n := by simp [mRec]
theorem mRec_at (k0 : Int) (n k : Nat) (h : k < n) : (mRec k0 n)[k]'(by rw [mRec_len]; exact h) = mRec1 (k0 + 3 * k) := by simp [mRec]
end Go.Proofs.YtpgamddjpclbaaaDoor.Ev
