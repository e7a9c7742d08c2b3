/- Contracts: what the functions of this part return, for arguments as each contract says. -/
import Derived.Test.YtlcodlnldcidoaaDoorEvD
import Derived.Test.YtlcodlnldcidoaaDoorEvTab
import Derived.Test.YtlcodlnldcidoaaDoorSTy
import Derived.Test.YtlcodlnldcidoaaDoorSKb
import Derived.Test.YtlcodlnldcidoaaDoorSLb
import Derived.Test.YtlcodlnldcidoaaDoorSIt
import Derived.Test.YtlcodlnldcidoaaDoorSRo
import Derived.Test.YtlcodlnldcidoaaDoorSSw
import Derived.Test.YtlcodlnldcidoaaDoorSVi
import Derived.Test.YtlcodlnldcidoaaDoorSPl
import Derived.Test.YtlcodlnldcidoaaDoorSVa
import Derived.Test.YtlcodlnldcidoaaDoorSSp
import Derived.Test.YtlcodlnldcidoaaDoorSSq
import Derived.Test.YtlcodlnldcidoaaDoorSLn
import Derived.Test.YtlcodlnldcidoaaDoorSRp
import Derived.Test.YtlcodlnldcidoaaDoorSRc
set_option linter.constructorNameAsVariable false
set_option linter.unusedVariables false
set_option linter.unusedSimpArgs false
set_option linter.unusedVariables false
set_option maxHeartbeats 4000000
set_option maxRecDepth 20000
set_option linter.unusedSimpArgs false
set_option linter.constructorNameAsVariable false
namespace Go.Proofs.YtlcodlnldcidoaaDoor.Ev
open Go Go.Proofs
attribute [local irreducible] RO Fn IntKind.wrap TriL
def gN (L : List ByteArray) (j k : Nat) : Int := if j < k then decV (L.getD (j + 2) ⟨#[]⟩) else 0
theorem splitS_len (s : ByteArray) : (splitS 32 s).length ≤ s.size + 1 := by
  have : ∀ l : List UInt8, cntB 32 l ≤ l.length := by
    intro l; induction l with
    | nil => simp [cntB]
    | cons x l ih => simp only [cntB, List.length_cons]; split <;> omega
  have := this (bs s)
  rw [splitS, List.length_map, splitB_len]
  rw [bs_len] at this; omega
theorem splitB_mem' (c : Int) : ∀ (l : List UInt8) (p : List UInt8), p ∈ splitB c l → p.length ≤ l.length
  | [], p, h => by simp [splitB] at h; subst h; simp
  | x :: l, p, h => by
    have ih := splitB_mem' c l
    rw [splitB] at h
    by_cases hx : (x.toNat : Int) = c
    · rw [if_pos hx, List.mem_cons] at h
      rcases h with h | h
      · subst h; simp
      · have := ih p h; simp; omega
    · rw [if_neg hx] at h
      cases hs : splitB c l with
      | nil =>
        rw [hs] at h
        simp at h; subst h; simp
      | cons q qs =>
        rw [hs] at h ih
        simp only [List.mem_cons] at h ih
        rcases h with h | h
        · subst h
          have := ih q (.inl rfl); simp; omega
        · have := ih p (.inr h); simp; omega
theorem splitS_mem {s x : ByteArray} (h : x ∈ splitS 32 s) : x.size ≤ s.size := by
  rw [splitS, List.mem_map] at h
  obtain ⟨p, hp, rfl⟩ := h
  have := splitB_mem' 32 _ _ hp
  rw [← bs_len, bs_ofBs, ← bs_len s]; exact this
theorem valL_lt : ∀ (l : List UInt8) (n : Int), digs l = true → valL l n < (n + 1) * 10 ^ l.length
  | [], n, _ => by simp [valL]; omega
  | x :: l, n, h => by
    rw [digs, List.all_cons, Bool.and_eq_true, dig, decide_eq_true_iff] at h
    have ih := valL_lt l (10 * n + ((x.toNat : Int) - 48)) h.2
    rw [valL, List.length_cons, Int.pow_succ]
    refine Int.lt_of_lt_of_le ih ?_
    have hp : (0 : Int) ≤ 10 ^ l.length := Int.le_of_lt (Int.pow_pos (by omega))
    have : (10 * n + ((x.toNat : Int) - 48) + 1) ≤ (n + 1) * 10 := by omega
    calc (10 * n + ((x.toNat : Int) - 48) + 1) * 10 ^ l.length ≤ ((n + 1) * 10) * 10 ^ l.length := Int.mul_le_mul_of_nonneg_right this hp
      _ = (n + 1) * (10 ^ l.length * 10) := by rw [Int.mul_assoc, Int.mul_comm 10]
theorem decV_ok (s : ByteArray) : I64 (decV s) := by
  rw [decV]
  split
  · rename_i h
    have h1 := valL_nn _ h.2.2 0 (Int.le_refl _)
    have h2 := valL_lt _ 0 h.2.2
    rw [bs_len] at h2
    have h3 : (10 : Int) ^ s.size ≤ 10 ^ 15 := by
      have := Nat.pow_le_pow_right (n := 10) (by omega) h.2.1
      exact_mod_cast this
    unfold I64; omega
  · exact ⟨by decide, by decide⟩
theorem gN_ok (L : List ByteArray) (j k : Nat) : I64 (gN L j k) := by
  rw [gN]; split
  · exact decV_ok _
  · exact ⟨by decide, by decide⟩

end Go.Proofs.YtlcodlnldcidoaaDoor.Ev
