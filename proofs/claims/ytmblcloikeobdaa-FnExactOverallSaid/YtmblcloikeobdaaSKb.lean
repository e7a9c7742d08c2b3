/- Contracts: what the functions of this part return, for arguments as each contract says. -/
import Derived.Test.YtmblcloikeobdaaEvD
import Derived.Test.YtmblcloikeobdaaEvTab
import Derived.Test.YtmblcloikeobdaaSTy
set_option linter.constructorNameAsVariable false
set_option linter.unusedVariables false
set_option linter.unusedSimpArgs false
set_option linter.unusedVariables false
set_option maxHeartbeats 4000000
set_option maxRecDepth 20000
set_option linter.unusedSimpArgs false
set_option linter.constructorNameAsVariable false
namespace Go.Proofs.Ytmblcloikeobdaa.Ev
open Go Go.Proofs
attribute [local irreducible] RO Fn IntKind.wrap TriL
def keyB (n : Int) : Bool := decide (97 ≤ n ∧ n ≤ 122 ∨ 65 ≤ n ∧ n ≤ 90 ∨ 48 ≤ n ∧ n ≤ 57 ∨ n = 95)
def keyOk (s : ByteArray) : Bool := (bs s).all (fun c => keyB c.toNat) && decide (1 ≤ s.size ∧ s.size ≤ 4)
def kw (n : Int) : ByteArray := if n = 1 then ⟨#[99]⟩ else if n = 2 then ⟨#[103]⟩ else if n = 3 then ⟨#[109, 115]⟩ else ⟨#[]⟩
theorem kw_nil (n : Int) : kw n = ⟨#[]⟩ ↔ ¬ (1 ≤ n ∧ n ≤ 3) := by
  unfold kw
  repeat' split
  all_goals simp
  all_goals omega
def kindOf (s : ByteArray) : Int := if s = ⟨#[99]⟩ then 1 else if s = ⟨#[103]⟩ then 2 else if s = ⟨#[109, 115]⟩ then 3 else 0
theorem kindOf_lem (s : ByteArray) (n : Int) (h : n = 1 ∨ n = 2 ∨ n = 3) : (kw n = s) ↔ kindOf s = n := by
  rcases h with rfl | rfl | rfl <;> simp only [kw, kindOf] <;> (constructor; · rintro rfl; simp) <;> (intro h; simp at h ⊢; repeat' split at h) <;> simp_all
theorem kindOf_rng (s : ByteArray) : 0 ≤ kindOf s ∧ kindOf s ≤ 3 := by
  unfold kindOf
  repeat' split
  all_goals omega
end Go.Proofs.Ytmblcloikeobdaa.Ev
