/- Contracts: what the functions of this part return, for arguments as each contract says. -/
import Derived.Test.YtpgamddjpclbaaaDoorEvD
import Derived.Test.YtpgamddjpclbaaaDoorEvTab
import Derived.Test.YtpgamddjpclbaaaDoorSTy
import Derived.Test.YtpgamddjpclbaaaDoorSKb
set_option linter.constructorNameAsVariable false
set_option linter.unusedVariables false
set_option linter.unusedSimpArgs false
set_option linter.unusedVariables false
set_option maxHeartbeats 4000000
set_option maxRecDepth 20000
set_option linter.unusedSimpArgs false
set_option linter.constructorNameAsVariable false
namespace Go.Proofs.YtpgamddjpclbaaaDoor.Ev
open Go Go.Proofs
attribute [local irreducible] RO Fn IntKind.wrap TriL
def timerOk (r : Row) : Bool := if r.n = 0 then decide (r.min = 0 ∧ r.max = 0 ∧ r.total = 0 ∧ r.dropped = 0)
  else decide ((1 ≤ r.n ∧ r.n ≤ 3) ∧ (0 ≤ r.min ∧ r.min ≤ r.max) ∧ r.max ≤ 65535 ∧ (IntKind.i64.wrap (r.min * r.n) ≤ r.total ∧ r.total ≤ IntKind.i64.wrap (r.max * r.n)) ∧ (0 ≤ r.dropped ∧ r.dropped ≤ 65535) ∧ (r.dropped = 0 ∨ r.n = 3))
def rowOk (r : Row) : Bool := keyOk r.key && (if r.kind = 1 then decide (r = ⟨r.key, r.kind, r.sum, false, 0, 0, 0, 0, 0, 0⟩ ∧ 0 ≤ r.sum ∧ r.sum ≤ 281474976710655)
  else if r.kind = 2 then decide (r = ⟨r.key, r.kind, 0, r.set, r.last, 0, 0, 0, 0, 0⟩ ∧ (0 ≤ r.last ∧ r.last ≤ 65535) ∧ (r.set = true ∨ r.last = 0))
  else if r.kind = 3 then decide (r.sum = 0 ∧ r.set = false ∧ r.last = 0) && timerOk r else false)
theorem rowOk3 (r : Row) (h : r.kind = 3) : rowOk r = (keyOk r.key && (decide (r = ⟨r.key, r.kind, 0, false, 0, r.n, r.min, r.max, r.total, r.dropped⟩) && timerOk r)) := by
  rw [rowOk, if_neg (by omega), if_neg (by omega), if_pos h]
  congr 2
  rw [decide_eq_decide]
  constructor
  · rintro ⟨a, b, c⟩; exact Row.ext' rfl rfl a b c rfl rfl rfl rfl rfl
  · intro e; rw [e]; exact ⟨rfl, rfl, rfl⟩
theorem row_zero3 (r : Row) (h : r = ⟨r.key, r.kind, 0, false, 0, r.n, r.min, r.max, r.total, r.dropped⟩) (h0 : r.n = 0) : r = ⟨r.key, r.kind, 0, false, 0, 0, 0, 0, 0, 0⟩ ↔ (r.min = 0 ∧ r.max = 0 ∧ r.total = 0 ∧ r.dropped = 0) := by
  rw [Row.eq_iff] at h ⊢
  simp only [h0] at h ⊢
  simp_all
def quiet (r : Row) : Bool := decide (r.sum = 0 ∧ r.n = 0 ∧ r.set = false)
end Go.Proofs.YtpgamddjpclbaaaDoor.Ev
