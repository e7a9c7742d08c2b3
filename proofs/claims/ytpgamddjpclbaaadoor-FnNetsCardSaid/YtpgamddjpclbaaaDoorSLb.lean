/- Contracts: what the functions of this part return, for arguments as each contract says. -/
import Derived.Test.YtpgamddjpclbaaaDoorEvD
import Derived.Test.YtpgamddjpclbaaaDoorEvTab
import Derived.Test.YtpgamddjpclbaaaDoorSTy
import Derived.Test.YtpgamddjpclbaaaDoorSKb
set_option linter.constructorNameAsVariable false
set_option linter.unusedVariables false
set_option linter.unusedSimpArgs false
set_option linter.unusedVariables false
set_option maxHeartbeats 4000000
set_option maxRecDepth 20000
set_option linter.unusedSimpArgs false
set_option linter.constructorNameAsVariable false
namespace Go.Proofs.YtpgamddjpclbaaaDoor.Ev
open Go Go.Proofs
attribute [local irreducible] RO Fn IntKind.wrap TriL
def szN (m : Nat) (n : Int) : Int := if n < m then -1 else n - m
theorem szN_le (m : Nat) (n : Int) (h : 0 ≤ szN m n) : szN m n = n - m ∧ (m : Int) ≤ n := by
  unfold szN at *; split at * <;> omega
abbrev opZ : List AV := [.i .i64 0, .s ⟨#[]⟩, .i .i64 0, .i .i64 0]
abbrev sendZ : List AV := [.i .i64 0, .i .i64 0]
abbrev recZ : List AV := [.s ⟨#[]⟩, .i .i64 0, .i .i64 0]
theorem eq_drop {α : Type} {l r : List α} {k : Nat} (h1 : k < l.length) (h2 : k < r.length) : (l.drop k = r.drop k) ↔ (l[k] = r[k] ∧ l.drop (k + 1) = r.drop (k + 1)) := by
  rw [List.drop_eq_getElem_cons h1, List.drop_eq_getElem_cons h2]; exact List.cons.injEq _ _ _ _ ▸ Iff.rfl
def szAll {α : Type} (f : α → Int → Int) : List α → Int → Int
  | [], n => n
  | x :: l, n => if f x n < 0 then -1 else szAll f l (f x n)
theorem szAll_cons {α : Type} (f : α → Int → Int) (x : α) (l : List α) (n : Int) : szAll f (x :: l) n = if f x n < 0 then -1 else szAll f l (f x n) := rfl
def szL {α : Type} (f : α → Int → Int) (l : List α) (n : Int) : Int := if n < l.length then -1 else szAll f l (n - l.length)
theorem szAll_le' {α : Type} {f : α → Int → Int} (hf : ∀ x n, 0 ≤ n → f x n ≤ n) : ∀ (l : List α) (n : Int), 0 ≤ n → szAll f l n ≤ n ∧ (0 ≤ szAll f l n → ∀ x ∈ l, ∃ m, m ≤ n ∧ 0 ≤ m ∧ 0 ≤ f x m)
  | [], n, _ => ⟨Int.le_refl _, by simp⟩
  | x :: l, n, h => by
    rw [szAll_cons]
    by_cases h1 : f x n < 0
    · rw [if_pos h1]
      exact ⟨by omega, fun h => absurd h (by omega)⟩
    · rw [if_neg h1]
      obtain ⟨a, b⟩ := szAll_le' hf l (f x n) (by omega)
      have := hf x n h
      refine ⟨by omega, fun h2 y hy => ?_⟩
      rcases List.mem_cons.1 hy with rfl | hy
      · exact ⟨n, Int.le_refl _, h, by omega⟩
      · obtain ⟨m, c, d, e⟩ := b h2 y hy
        exact ⟨m, by omega, d, e⟩
theorem szL_le' {α : Type} {f : α → Int → Int} (hf : ∀ x n, 0 ≤ n → f x n ≤ n) (l : List α) (n : Int) (h : 0 ≤ n) : szL f l n ≤ n ∧ (0 ≤ szL f l n → (l.length : Int) ≤ n ∧ ∀ x ∈ l, ∃ m, m ≤ n ∧ 0 ≤ m ∧ 0 ≤ f x m) := by
  unfold szL
  split
  · exact ⟨by omega, fun h => absurd h (by omega)⟩
  · obtain ⟨a, b⟩ := szAll_le' hf l (n - l.length) (by omega)
    refine ⟨by omega, fun h2 => ⟨by omega, fun x hx => ?_⟩⟩
    obtain ⟨m, c, d, e⟩ := b h2 x hx
    exact ⟨m, by omega, d, e⟩
def szStr (s : ByteArray) (n : Int) : Int := szN s.size n
def szRow (r : Row) (n : Int) : Int := szN r.key.size n
def szRows (l : List Row) (n : Int) : Int := szL szRow l n
theorem szN_leq (m : Nat) (n : Int) (h : 0 ≤ n) : szN m n ≤ n := by unfold szN; split <;> omega
theorem szLe_szRow (r : Row) (n : Int) (h : 0 ≤ n) : szRow r n ≤ n := szN_leq _ _ h
theorem szLe_szRows (l : List Row) (n : Int) (h : 0 ≤ n) : szRows l n ≤ n := by
  unfold szRows szL
  split
  · omega
  · have : ∀ (l : List Row) (n : Int), 0 ≤ n → szAll szRow l n ≤ n := by
      intro l
      induction l with
      | nil => intro n _; exact Int.le_refl _
      | cons x l ih =>
        intro n h
        rw [szAll_cons]
        split
        · omega
        · have h1 := szLe_szRow x n h
          have := ih (szRow x n) (by omega)
          omega
    have := this l (n - l.length) (by omega)
    omega
theorem szRows_le' (l : List Row) (n : Int) (h0 : 0 ≤ n) (h : 0 ≤ szRows l n) : (l.length : Int) ≤ n ∧ ∀ r ∈ l, (r.key.size : Int) ≤ n := by
  obtain ⟨a, b⟩ := szL_le' szLe_szRow l n h0
  obtain ⟨c, d⟩ := b h
  refine ⟨c, fun r hr => ?_⟩
  obtain ⟨m, e, f, g⟩ := d r hr
  have := szN_le _ _ (show 0 ≤ szN r.key.size m from g)
  omega
theorem szRow_le' (r : Row) (n : Int) : szRow r n ≤ n ∨ n < 0 := by
  by_cases h : 0 ≤ n
  · exact .inl (szN_leq _ _ h)
  · exact .inr (by omega)
end Go.Proofs.YtpgamddjpclbaaaDoor.Ev
