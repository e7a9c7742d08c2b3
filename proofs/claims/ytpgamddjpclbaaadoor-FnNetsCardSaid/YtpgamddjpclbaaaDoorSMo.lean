/- Contracts: what the functions of this part return, for arguments as each contract says. -/
import Derived.Test.YtpgamddjpclbaaaDoorEvD
import Derived.Test.YtpgamddjpclbaaaDoorEvTab
import Derived.Test.YtpgamddjpclbaaaDoorSTy
import Derived.Test.YtpgamddjpclbaaaDoorSKb
import Derived.Test.YtpgamddjpclbaaaDoorSLb
import Derived.Test.YtpgamddjpclbaaaDoorSMk
set_option linter.constructorNameAsVariable false
set_option linter.unusedVariables false
set_option linter.unusedSimpArgs false
set_option linter.unusedVariables false
set_option maxHeartbeats 4000000
set_option maxRecDepth 20000
set_option linter.unusedSimpArgs false
set_option linter.constructorNameAsVariable false
namespace Go.Proofs.YtpgamddjpclbaaaDoor.Ev
open Go Go.Proofs
attribute [local irreducible] RO Fn IntKind.wrap TriL
def mOp1 (k : Int) : Op := ⟨k, mtext (k + 1), k + 2, k + 3⟩
def mOp (k0 : Int) (n : Nat) : List Op := (List.range n).map fun i : Nat => mOp1 (k0 + 4 * (i : Int))
@[simp] theorem mOp_len (k0 : Int) (n : Nat) : (mOp k0 n).length = n := by simp [mOp]
theorem mOp_at (k0 : Int) (n k : Nat) (h : k < n) : (mOp k0 n)[k]'(by rw [mOp_len]; exact h) = mOp1 (k0 + 4 * k) := by simp [mOp]
end Go.Proofs.YtpgamddjpclbaaaDoor.Ev
