/- Contracts: what the functions of this part return, for arguments as each contract says. -/
import Derived.Test.YtlcodlnldcidoaaDoorEvD
import Derived.Test.YtlcodlnldcidoaaDoorEvTab
import Derived.Test.YtlcodlnldcidoaaDoorSTy
import Derived.Test.YtlcodlnldcidoaaDoorSKb
import Derived.Test.YtlcodlnldcidoaaDoorSLb
import Derived.Test.YtlcodlnldcidoaaDoorSOb
import Derived.Test.YtlcodlnldcidoaaDoorSRw
import Derived.Test.YtlcodlnldcidoaaDoorSFr
import Derived.Test.YtlcodlnldcidoaaDoorSEs
set_option linter.constructorNameAsVariable false
set_option linter.unusedVariables false
set_option linter.unusedSimpArgs false
set_option linter.unusedVariables false
set_option maxHeartbeats 4000000
set_option maxRecDepth 20000
set_option linter.unusedSimpArgs false
set_option linter.constructorNameAsVariable false
namespace Go.Proofs.YtlcodlnldcidoaaDoor.Ev
open Go Go.Proofs
attribute [local irreducible] RO Fn IntKind.wrap TriL
theorem Job.eq_iff {a b : Job} : a = b ↔ a.busy = b.busy ∧ a.op = b.op ∧ a.serial = b.serial ∧ a.pc = b.pc ∧ a.k = b.k ∧ a.slot = b.slot ∧ a.what = b.what ∧ a.e = b.e ∧ a.stamp = b.stamp ∧ a.old = b.old ∧ a.flips = b.flips ∧ a.steps = b.steps ∧ a.code = b.code ∧ a.keys = b.keys ∧ a.raw = b.raw := by
  cases a; cases b; simp
theorem Queue.eq_iff {a b : Queue} : a = b ↔ a.ops = b.ops := by
  cases a; cases b; simp
theorem World'.eq_iff {a b : World'} : a = b ↔ a.cells = b.cells ∧ a.jobs = b.jobs ∧ a.todo = b.todo ∧ a.log = b.log ∧ a.serial = b.serial ∧ a.now = b.now := by
  cases a; cases b; simp
end Go.Proofs.YtlcodlnldcidoaaDoor.Ev
