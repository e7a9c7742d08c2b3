/- Contracts: what the functions of this part return, for arguments as each contract says. -/
import Derived.Test.YtlcodlnldcidoaaDoorEvD
import Derived.Test.YtlcodlnldcidoaaDoorEvTab
import Derived.Test.YtlcodlnldcidoaaDoorSTy
import Derived.Test.YtlcodlnldcidoaaDoorSKb
import Derived.Test.YtlcodlnldcidoaaDoorSLb
import Derived.Test.YtlcodlnldcidoaaDoorSIt
import Derived.Test.YtlcodlnldcidoaaDoorSRo
import Derived.Test.YtlcodlnldcidoaaDoorSSw
import Derived.Test.YtlcodlnldcidoaaDoorSVi
import Derived.Test.YtlcodlnldcidoaaDoorSPl
import Derived.Test.YtlcodlnldcidoaaDoorSVa
import Derived.Test.YtlcodlnldcidoaaDoorSSp
import Derived.Test.YtlcodlnldcidoaaDoorSSq
import Derived.Test.YtlcodlnldcidoaaDoorSLn
import Derived.Test.YtlcodlnldcidoaaDoorSRp
set_option linter.constructorNameAsVariable false
set_option linter.unusedVariables false
set_option linter.unusedSimpArgs false
set_option linter.unusedVariables false
set_option maxHeartbeats 4000000
set_option maxRecDepth 20000
set_option linter.unusedSimpArgs false
set_option linter.constructorNameAsVariable false
namespace Go.Proofs.YtlcodlnldcidoaaDoor.Ev
open Go Go.Proofs
attribute [local irreducible] RO Fn IntKind.wrap TriL
def DcI (s : ByteArray) (k : Nat) (n : Int) : Prop := 0 ≤ n ∧ n < 10 ^ k ∧ digs ((bs s).drop k) = digs (bs s) ∧ valL ((bs s).drop k) n = valL (bs s) 0
theorem p15 {k : Nat} (h : k < 15) : (10 : Int) ^ k ≤ 100000000000000 ∧ (10 : Int) ^ (k + 1) = 10 * 10 ^ k := by
  have : k = 0 ∨ k = 1 ∨ k = 2 ∨ k = 3 ∨ k = 4 ∨ k = 5 ∨ k = 6 ∨ k = 7 ∨ k = 8 ∨ k = 9 ∨ k = 10 ∨ k = 11 ∨ k = 12 ∨ k = 13 ∨ k = 14 := by omega
  rcases this with rfl | rfl | rfl | rfl | rfl | rfl | rfl | rfl | rfl | rfl | rfl | rfl | rfl | rfl | rfl <;> decide
theorem DcI_step {s : ByteArray} {k : Nat} {n m : Int} (h : DcI s k n) (hk : k < s.size) (hk5 : k < 15) (h1 : 48 ≤ byteAt s k) (h2 : byteAt s k ≤ 57) (hm : m = 10 * n + (byteAt s k - 48)) : DcI s (k + 1) m := by
  obtain ⟨a, b, c, d⟩ := h
  have := p15 hk5
  rw [digs_step hk, dig_t h1 h2, Bool.true_and] at c
  rw [val_step hk] at d
  subst hm
  exact ⟨by omega, by omega, c, d⟩
theorem DcI_bad {s : ByteArray} {k : Nat} {n : Int} (h : DcI s k n) (hk : k < s.size) (hb : ¬ (48 ≤ byteAt s k ∧ byteAt s k ≤ 57)) : decV s = -1 := by
  obtain ⟨a, b, c, d⟩ := h
  rw [digs_step hk, dig_f hb, Bool.false_and] at c
  rw [decV, if_neg]
  rw [← c]; simp
theorem DcI_end {s : ByteArray} {n : Int} (h : DcI s s.size n) (h1 : 1 ≤ (s.size : Int)) (h2 : (s.size : Int) ≤ 15) : decV s = n := by
  obtain ⟨a, b, c, d⟩ := h
  rw [drop_size] at c d
  rw [decV, ← c, ← d, if_pos ⟨by omega, by omega, rfl⟩]; rfl
theorem DcI_zero (s : ByteArray) : DcI s 0 0 := ⟨by omega, by decide, by simp, by simp⟩
theorem DcI_lt {s : ByteArray} {k : Nat} {n : Int} (h : DcI s k n) (hk5 : k < 15) : 0 ≤ n ∧ n < 100000000000000 := by
  have := p15 hk5
  obtain ⟨a, b, _⟩ := h
  omega
theorem dc_wrap {n b : Int} (h : 0 ≤ n) (h2 : n < 100000000000000) (h3 : 48 ≤ b) (h4 : b ≤ 57) : IntKind.i64.wrap (IntKind.i64.wrap (n * 10) + IntKind.i64.wrap (IntKind.u8.wrap (b - 48))) = 10 * n + (b - 48) := by
  simp only [wrap64, wrap8]; omega
theorem dc_wrap' {n b : Int} (h : 0 ≤ n) (h2 : n < 100000000000000) (h3 : 48 ≤ b) (h4 : b ≤ 57) : IntKind.i64.wrap (IntKind.i64.wrap (10 * n) + IntKind.i64.wrap (IntKind.u8.wrap (b - 48))) = 10 * n + (b - 48) := by
  simp only [wrap64, wrap8]; omega
def SkI (s : ByteArray) (k : Nat) (n : Int) : Prop := 0 ≤ n ∧ n < 10 ^ k ∧ skL (((bs s).drop k).take (15 - k)) n = skV s
theorem sk_drop {s : ByteArray} {k : Nat} (h : k < s.size) (hk : k < 15) : ((bs s).drop k).take (15 - k) = (bs s)[k]'(by rw [bs_len]; exact h) :: ((bs s).drop (k + 1)).take (15 - (k + 1)) := by
  rw [List.drop_eq_getElem_cons (by rw [bs_len]; exact h), show 15 - k = (15 - (k + 1)) + 1 by omega, List.take_succ_cons]
theorem SkI_dig {s : ByteArray} {k : Nat} {n m : Int} (h : SkI s k n) (hk : k < s.size) (hk5 : k < 15) (h1 : 48 ≤ byteAt s k) (h2 : byteAt s k ≤ 57) (hm : m = 10 * n + (byteAt s k - 48)) : SkI s (k + 1) m := by
  obtain ⟨a, b, c⟩ := h
  have := p15 hk5
  rw [sk_drop hk hk5] at c
  rw [byteAt_eq hk] at h1 h2 hm
  rw [skL, if_pos (dig_t h1 h2)] at c
  subst hm
  exact ⟨by omega, by omega, c⟩
theorem SkI_no {s : ByteArray} {k : Nat} {n : Int} (h : SkI s k n) (hk : k < s.size) (hk5 : k < 15) (h1 : ¬ (48 ≤ byteAt s k ∧ byteAt s k ≤ 57)) : SkI s (k + 1) n := by
  obtain ⟨a, b, c⟩ := h
  have := p15 hk5
  rw [sk_drop hk hk5] at c
  rw [byteAt_eq hk] at h1
  rw [skL, if_neg (by rw [dig_f h1]; simp)] at c
  exact ⟨by omega, by omega, c⟩
theorem SkI_end {s : ByteArray} {N : Nat} {n : Int} (h : SkI s N n) (hN : N = s.size ∨ N = 15) : skV s = n := by
  obtain ⟨a, b, c⟩ := h
  rw [← c]
  rcases hN with rfl | rfl
  · rw [List.drop_eq_nil_of_le (by rw [bs_len]; omega), List.take_nil]; rfl
  · rw [Nat.sub_self, List.take_zero]; rfl
theorem SkI_zero (s : ByteArray) : SkI s 0 0 := ⟨by omega, by decide, rfl⟩
theorem SkI_lt {s : ByteArray} {k : Nat} {n : Int} (h : SkI s k n) (hk5 : k < 15) : 0 ≤ n ∧ n < 100000000000000 := by
  have := p15 hk5
  obtain ⟨a, b, _⟩ := h
  omega
theorem cut_mid {c : Int} {l : List UInt8} {f k : Nat} (hk : k < l.length) (hx : (l[k].toNat : Int) = c) (hf : f ≤ k) (h : cntB c ((l.drop f).take (k - f)) = 0) : splitB c (l.drop f) = ((l.drop f).take (k - f)) :: splitB c (l.drop (k + 1)) := by
  have e : l.drop f = (l.drop f).take (k - f) ++ l[k] :: l.drop (k + 1) := by
    conv => lhs; rw [← List.take_append_drop (k - f) (l.drop f)]
    rw [List.drop_drop, show f + (k - f) = k by omega, List.drop_eq_getElem_cons hk]
  conv => lhs; rw [e]
  exact splitB_pre hx _ h
theorem take_moreC {c : Int} {l : List UInt8} {f k : Nat} (hk : k < l.length) (hx : ¬ (l[k].toNat : Int) = c) (hf : f ≤ k) (h : cntB c ((l.drop f).take (k - f)) = 0) : cntB c ((l.drop f).take (k + 1 - f)) = 0 := by
  rw [show k + 1 - f = (k - f) + 1 by omega, List.take_succ_eq_append_getElem (by rw [List.length_drop]; omega), cntB_app, h]
  have e : (l.drop f)[k - f]'(by rw [List.length_drop]; omega) = l[k] := by
    rw [List.getElem_drop]; congr 1; omega
  rw [e]
  simp [cntB, hx]

end Go.Proofs.YtlcodlnldcidoaaDoor.Ev
