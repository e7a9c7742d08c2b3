/- Contracts: what the functions of this part return, for arguments as each contract says. -/
import Derived.Test.YtlcodlnldcidoaaEvD
import Derived.Test.YtlcodlnldcidoaaEvTab
import Derived.Test.YtlcodlnldcidoaaSTy
import Derived.Test.YtlcodlnldcidoaaSKb
import Derived.Test.YtlcodlnldcidoaaSLb
import Derived.Test.YtlcodlnldcidoaaSOb
import Derived.Test.YtlcodlnldcidoaaSRw
import Derived.Test.YtlcodlnldcidoaaSFr
import Derived.Test.YtlcodlnldcidoaaSEs
set_option linter.constructorNameAsVariable false
set_option linter.unusedVariables false
set_option linter.unusedSimpArgs false
set_option linter.unusedVariables false
set_option maxHeartbeats 4000000
set_option maxRecDepth 20000
set_option linter.unusedSimpArgs false
set_option linter.constructorNameAsVariable false
namespace Go.Proofs.Ytlcodlnldcidoaa.Ev
open Go Go.Proofs
attribute [local irreducible] RO Fn IntKind.wrap TriL
def cntP {α : Type} (p : α → Bool) : List α → Int
  | [] => 0
  | x :: l => (if p x then 1 else 0) + cntP p l
theorem cntP_cons {α : Type} (p : α → Bool) (x : α) (l : List α) : cntP p (x :: l) = (if p x then 1 else 0) + cntP p l := rfl
theorem cntP_rng {α : Type} (p : α → Bool) (l : List α) : 0 ≤ cntP p l ∧ cntP p l ≤ l.length := by
  induction l with
  | nil => simp [cntP]
  | cons x l ih => rw [cntP_cons]; simp only [List.length_cons]; split <;> omega
def isSwap (e : Evt) : Bool := decide (e.kind = 2 ∧ e.op.kind = 3)
def seg {α : Type} (l : List α) (a z : Int) : List α := (l.take z.toNat).drop a.toNat
theorem findIdx_rng {α : Type} (p : α → Bool) (l : List α) (k : Nat) : findIdx p l k = -1 ∨ ((k : Int) ≤ findIdx p l k ∧ findIdx p l k < k + l.length) := by
  induction l generalizing k with
  | nil => exact .inl rfl
  | cons x l ih =>
    rw [findIdx_cons]
    simp only [List.length_cons]
    split
    · exact .inr ⟨Int.le_refl _, by omega⟩
    · rcases ih (k + 1) with h | h
      · exact .inl h
      · exact .inr ⟨by omega, by omega⟩
theorem placeOf_rng (l : List Evt) (kind serial : Int) : -1 ≤ placeOf l kind serial ∧ placeOf l kind serial < l.length := by
  rcases findIdx_rng (isAt kind serial) l 0 with h | h <;> simp only [placeOf] <;> omega
theorem seg_step {α : Type} {l : List α} {i z : Int} (h0 : 0 ≤ i) (h1 : i < z) (h2 : z ≤ l.length) (p : α → Bool) : cntP p (seg l i z) = (if p (l[i.toNat]'(by omega)) then 1 else 0) + cntP p (seg l (i + 1) z) := by
  have e : seg l i z = l[i.toNat]'(by omega) :: seg l (i + 1) z := by
    unfold seg
    have h3 : i.toNat < (l.take z.toNat).length := by simp; omega
    rw [List.drop_eq_getElem_cons h3]
    have : (i + 1).toNat = i.toNat + 1 := by omega
    rw [this]
    congr 1
    simp
  rw [e, cntP_cons]
theorem seg_nil {α : Type} {l : List α} {i z : Int} (h1 : z ≤ i) : seg l i z = [] := by
  unfold seg
  rw [List.drop_eq_nil_iff]
  simp; omega
def swapsIn (l : List Evt) (a z : Int) : Int := cntP isSwap (seg l (if 0 > a then 0 else a) z)
def flipOne (l : List Evt) (k : Nat) (e : Evt) : Bool := !(decide (e.kind = 3)) || decide (e.flips ≤ swapsIn l (placeOf l 1 e.serial) k)
def flipsAll (l : List Evt) : List Evt → Nat → Bool
  | [], _ => true
  | e :: r, k => flipOne l k e && flipsAll l r (k + 1)
theorem flipsAll_cons (l : List Evt) (e : Evt) (r : List Evt) (k : Nat) : flipsAll l (e :: r) k = (flipOne l k e && flipsAll l r (k + 1)) := rfl
theorem szEvs_le (l : List Evt) (n : Int) (h0 : 0 ≤ n) (h : 0 ≤ szL szEv l n) : (l.length : Int) ≤ n ∧ ∀ e ∈ l, (e.rows.length : Int) ≤ n := by
  obtain ⟨_, b⟩ := szL_le' szLe_szEv l n h0
  obtain ⟨c, d⟩ := b h
  refine ⟨c, fun e he => ?_⟩
  obtain ⟨m, e1, e2, e3⟩ := d e he
  have h5 := szN_leq e.op.key.size m e2
  unfold szEv at e3
  split at e3
  · omega
  · split at e3
    · omega
    · have := (szRows_le' e.rows _ (by omega) e3).1
      omega
end Go.Proofs.Ytlcodlnldcidoaa.Ev
