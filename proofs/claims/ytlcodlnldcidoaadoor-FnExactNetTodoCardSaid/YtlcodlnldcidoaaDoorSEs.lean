/- Contracts: what the functions of this part return, for arguments as each contract says. -/
import Derived.Test.YtlcodlnldcidoaaDoorEvD
import Derived.Test.YtlcodlnldcidoaaDoorEvTab
import Derived.Test.YtlcodlnldcidoaaDoorSTy
import Derived.Test.YtlcodlnldcidoaaDoorSKb
import Derived.Test.YtlcodlnldcidoaaDoorSLb
import Derived.Test.YtlcodlnldcidoaaDoorSOb
import Derived.Test.YtlcodlnldcidoaaDoorSRw
import Derived.Test.YtlcodlnldcidoaaDoorSFr
set_option linter.constructorNameAsVariable false
set_option linter.unusedVariables false
set_option linter.unusedSimpArgs false
set_option linter.unusedVariables false
set_option maxHeartbeats 4000000
set_option maxRecDepth 20000
set_option linter.unusedSimpArgs false
set_option linter.constructorNameAsVariable false
namespace Go.Proofs.YtlcodlnldcidoaaDoor.Ev
open Go Go.Proofs
attribute [local irreducible] RO Fn IntKind.wrap TriL
theorem Evt.eq_iff {a b : Evt} : a = b ↔ a.kind = b.kind ∧ a.who = b.who ∧ a.serial = b.serial ∧ a.at_ = b.at_ ∧ a.op = b.op ∧ a.code = b.code ∧ a.win = b.win ∧ a.steps = b.steps ∧ a.flips = b.flips ∧ a.rows = b.rows := by
  cases a; cases b; simp
end Go.Proofs.YtlcodlnldcidoaaDoor.Ev
