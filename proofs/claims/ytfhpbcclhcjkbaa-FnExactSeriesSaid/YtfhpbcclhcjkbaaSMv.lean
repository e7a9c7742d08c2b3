/- Contracts: what the functions of this part return, for arguments as each contract says. -/
import Derived.Test.YtfhpbcclhcjkbaaEvD
import Derived.Test.YtfhpbcclhcjkbaaEvTab
import Derived.Test.YtfhpbcclhcjkbaaSTy
import Derived.Test.YtfhpbcclhcjkbaaSKb
import Derived.Test.YtfhpbcclhcjkbaaSRo
import Derived.Test.YtfhpbcclhcjkbaaSCu
import Derived.Test.YtfhpbcclhcjkbaaSCq
import Derived.Test.YtfhpbcclhcjkbaaSCv
import Derived.Test.YtfhpbcclhcjkbaaSGr
import Derived.Test.YtfhpbcclhcjkbaaSFs
set_option linter.constructorNameAsVariable false
set_option linter.unusedVariables false
set_option linter.unusedSimpArgs false
set_option linter.unusedVariables false
set_option maxHeartbeats 4000000
set_option maxRecDepth 20000
set_option linter.unusedSimpArgs false
set_option linter.constructorNameAsVariable false
namespace Go.Proofs.Ytfhpbcclhcjkbaa.Ev
open Go Go.Proofs
attribute [local irreducible] RO Fn IntKind.wrap TriL
/- moving sums of few small numbers -/
def preS (l : List Int) (k : Nat) : Int := (l.take k).foldl (· + ·) 0
theorem preS_succ {l : List Int} {k : Nat} (h : k < l.length) : preS l (k + 1) = preS l k + l[k] := by
  rw [preS, List.take_succ_eq_append_getElem h, List.foldl_append]; rfl
structure Small (l : List Int) : Prop where
  len : l.length ≤ 8
  each : ∀ x ∈ l, -100 ≤ x ∧ x ≤ 100
theorem preS_bnd {l : List Int} (h : Small l) : ∀ k, k ≤ l.length → -100 * (k : Int) ≤ preS l k ∧ preS l k ≤ 100 * (k : Int) := by
  intro k
  induction k with
  | zero => intro _; simp [preS]
  | succ k ih =>
    intro hk
    have := ih (by omega)
    have := h.each _ (List.getElem_mem (l := l) (n := k) (by omega))
    rw [preS_succ (by omega)]
    omega
def mov (l : List Int) (n : Int) (i : Nat) : Int := if 1 ≤ n then preS l (i + 1) - preS l (i + 1 - n.toNat) else 0
def moving (l : List Int) (n : Int) (k : Nat) : List Int := (List.range k).map (mov l n)
theorem moving_succ (l : List Int) (n : Int) (k : Nat) : (moving l n (k + 1)).map iv = (moving l n k).map iv ++ [iv (mov l n k)] := by
  rw [moving, List.range_succ, List.map_append, List.map_append]; rfl
theorem moving_len (l : List Int) (n : Int) (k : Nat) : (moving l n k).length = k := by simp [moving]
theorem moving_lenm (l : List Int) (n : Int) (k : Nat) : k = ((moving l n k).map iv).length := by simp [moving]
theorem moving_one {l : List Int} : moving l 1 l.length = l := by
  apply List.ext_getElem
  · simp [moving]
  · intro i h1 h2
    simp only [moving, List.getElem_map, List.getElem_range, mov]
    rw [if_pos (by omega), preS_succ h2]
    show preS l i + l[i] - preS l (i + 1 - 1) = l[i]
    rw [Nat.add_sub_cancel]; omega
theorem moving_last {l : List Int} (h : 0 < l.length) : (moving l l.length l.length)[l.length - 1]'(by rw [moving_len]; omega) = preS l l.length := by
  simp only [moving, List.getElem_map, List.getElem_range, mov]
  rw [if_pos (by omega), show l.length - 1 + 1 = l.length from by omega, Int.toNat_natCast, Nat.sub_self]
  show preS l l.length - 0 = _
  omega

end Go.Proofs.Ytfhpbcclhcjkbaa.Ev
