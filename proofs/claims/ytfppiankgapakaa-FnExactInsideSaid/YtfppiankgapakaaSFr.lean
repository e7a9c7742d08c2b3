/- Contracts: what the functions of this part return, for arguments as each contract says. -/
import Derived.Test.YtfppiankgapakaaEvD
import Derived.Test.YtfppiankgapakaaEvTab
import Derived.Test.YtfppiankgapakaaSTy
import Derived.Test.YtfppiankgapakaaSKb
import Derived.Test.YtfppiankgapakaaSLb
import Derived.Test.YtfppiankgapakaaSRw
set_option linter.constructorNameAsVariable false
set_option linter.unusedVariables false
set_option linter.unusedSimpArgs false
set_option linter.unusedVariables false
set_option maxHeartbeats 4000000
set_option maxRecDepth 20000
set_option linter.unusedSimpArgs false
set_option linter.constructorNameAsVariable false
namespace Go.Proofs.Ytfppiankgapakaa.Ev
open Go Go.Proofs
attribute [local irreducible] RO Fn IntKind.wrap TriL
def findRow (l : List Row) (key : ByteArray) : Row × Bool := match l with
  | [] => (Row.zero, false)
  | r :: l => if r.key = key then (r, true) else findRow l key
theorem findRow_cons (r : Row) (l : List Row) (key : ByteArray) : findRow (r :: l) key = if r.key = key then (r, true) else findRow l key := rfl
/- the place of a row -/
def findIdx {α : Type} (p : α → Bool) : List α → Nat → Int
  | [], _ => -1
  | x :: l, k => if p x then (k : Int) else findIdx p l (k + 1)
theorem findIdx_cons {α : Type} (p : α → Bool) (x : α) (l : List α) (k : Nat) : findIdx p (x :: l) k = if p x then (k : Int) else findIdx p l (k + 1) := rfl
theorem findIdx_find (l : List Row) (k : ByteArray) (n : Nat) : (findIdx (fun r => decide (r.key = k)) l n = -1 ∧ findRow l k = (Row.zero, false)) ∨ ∃ i : Nat, ∃ h : i < l.length, findIdx (fun r => decide (r.key = k)) l n = (n + i : Nat) ∧ findRow l k = (l[i], true) := by
  induction l generalizing n with
  | nil => exact .inl ⟨rfl, rfl⟩
  | cons r l ih =>
    simp only [findIdx_cons, findRow_cons]
    by_cases h : r.key = k
    · right; refine ⟨0, by simp, ?_⟩; simp [h]
    · simp only [h, decide_false, if_neg (show ¬ False from id), Bool.false_eq_true, if_false]
      rcases ih (n + 1) with ⟨h1, h2⟩ | ⟨i, hi, h1, h2⟩
      · exact .inl ⟨h1, h2⟩
      · right; refine ⟨i + 1, by simpa using hi, ?_, ?_⟩
        · rw [h1]; congr 1; omega
        · rw [h2]; simp
end Go.Proofs.Ytfppiankgapakaa.Ev
