/- Contracts: what the functions of this part return, for arguments as each contract says. -/
import Derived.Test.YtlcodlnldcidoaaDoorEvD
import Derived.Test.YtlcodlnldcidoaaDoorEvTab
import Derived.Test.YtlcodlnldcidoaaDoorSTy
import Derived.Test.YtlcodlnldcidoaaDoorSKb
import Derived.Test.YtlcodlnldcidoaaDoorSLb
import Derived.Test.YtlcodlnldcidoaaDoorEvE
set_option linter.constructorNameAsVariable false
set_option linter.unusedVariables false
set_option linter.unusedSimpArgs false
set_option linter.unusedVariables false
set_option maxHeartbeats 4000000
set_option maxRecDepth 20000
set_option linter.unusedSimpArgs false
set_option linter.constructorNameAsVariable false
namespace Go.Proofs.YtlcodlnldcidoaaDoor.Ev
open Go Go.Proofs
attribute [local irreducible] RO Fn IntKind.wrap TriL
def dig (n : Int) : Bool := decide (48 ≤ n ∧ n ≤ 57)
def digs (l : List UInt8) : Bool := l.all fun c => dig c.toNat
def valL : List UInt8 → Int → Int
  | [], n => n
  | x :: l, n => valL l (10 * n + ((x.toNat : Int) - 48))
def readV (s : ByteArray) : Int × Bool := if 1 ≤ s.size ∧ s.size ≤ 5 ∧ digs (bs s) = true ∧ valL (bs s) 0 ≤ 65535 then (valL (bs s) 0, true) else (0, false)
theorem digs_step {s : ByteArray} {k : Nat} (h : k < s.size) : digs ((bs s).drop k) = (dig (byteAt s k) && digs ((bs s).drop (k + 1))) := by
  unfold digs
  rw [drop_bs h, List.all_cons, byteAt_eq h]
theorem val_step {s : ByteArray} {k : Nat} (h : k < s.size) (n : Int) : valL ((bs s).drop k) n = valL ((bs s).drop (k + 1)) (10 * n + (byteAt s k - 48)) := by
  rw [drop_bs h, valL, byteAt_eq h]
theorem dig_t {n : Int} (h : 48 ≤ n) (h2 : n ≤ 57) : dig n = true := by simp [dig, h, h2]
theorem dig_f {n : Int} (h : ¬ (48 ≤ n ∧ n ≤ 57)) : dig n = false := by simp only [dig]; simpa using h
end Go.Proofs.YtlcodlnldcidoaaDoor.Ev
