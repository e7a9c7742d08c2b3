/- Contracts: what the functions of this part return, for arguments as each contract says. -/
import Derived.Test.YtpgamddjpclbaaaDoorEvD
import Derived.Test.YtpgamddjpclbaaaDoorEvTab
import Derived.Test.YtpgamddjpclbaaaDoorSTy
import Derived.Test.YtpgamddjpclbaaaDoorSKb
import Derived.Test.YtpgamddjpclbaaaDoorSLb
import Derived.Test.YtpgamddjpclbaaaDoorSMk
set_option linter.constructorNameAsVariable false
set_option linter.unusedVariables false
set_option linter.unusedSimpArgs false
set_option linter.unusedVariables false
set_option maxHeartbeats 4000000
set_option maxRecDepth 20000
set_option linter.unusedSimpArgs false
set_option linter.constructorNameAsVariable false
namespace Go.Proofs.YtpgamddjpclbaaaDoor.Ev
open Go Go.Proofs
attribute [local irreducible] RO Fn IntKind.wrap TriL
def mSend1 (k : Int) : Send := ⟨k, k + 1⟩
def mSend (k0 : Int) (n : Nat) : List Send := (List.range n).map fun i : Nat => mSend1 (k0 + 2 * (i : Int))
@[simp] theorem mSend_len (k0 : Int) (n : Nat) : (mSend k0 n).length = n := by simp [mSend]
theorem mSend_at (k0 : Int) (n k : Nat) (h : k < n) : (mSend k0 n)[k]'(by rw [mSend_len]; exact h) = mSend1 (k0 + 2 * k) := by simp [mSend]
end Go.Proofs.YtpgamddjpclbaaaDoor.Ev
