/- Contracts: what the functions of this part return, for arguments as each contract says. -/
import Derived.Test.YtpgamddjpclbaaaDoorEvD
import Derived.Test.YtpgamddjpclbaaaDoorEvTab
import Derived.Test.YtpgamddjpclbaaaDoorSTy
import Derived.Test.YtpgamddjpclbaaaDoorSKb
import Derived.Test.YtpgamddjpclbaaaDoorSLb
set_option linter.constructorNameAsVariable false
set_option linter.unusedVariables false
set_option linter.unusedSimpArgs false
set_option linter.unusedVariables false
set_option maxHeartbeats 4000000
set_option maxRecDepth 20000
set_option linter.unusedSimpArgs false
set_option linter.constructorNameAsVariable false
namespace Go.Proofs.YtpgamddjpclbaaaDoor.Ev
open Go Go.Proofs
attribute [local irreducible] RO Fn IntKind.wrap TriL
def mt (k : Int) (out : ByteArray) : ByteArray := if h : 0 < k then mt (k / 10) (⟨#[UInt8.ofNat (IntKind.u8.wrap (IntKind.i64.wrap (48 + k.tmod 10))).toNat]⟩ ++ out) else out
termination_by k.toNat
decreasing_by omega
def mtext (k : Int) : ByteArray := ⟨#[109]⟩ ++ mt k ⟨#[]⟩
theorem mt_pos {k : Int} (h : 0 < k) (out : ByteArray) : mt k out = mt (k / 10) (⟨#[UInt8.ofNat (IntKind.u8.wrap (IntKind.i64.wrap (48 + k.tmod 10))).toNat]⟩ ++ out) := by
  rw [mt, dif_pos h]
theorem mt_zero {k : Int} (h : ¬ 0 < k) (out : ByteArray) : mt k out = out := by
  rw [mt, dif_neg h]
/-! lists that are told anew from the left -/
def mix {α : Type} (f : α → List AV) (ms l : List α) (k : Nat) : List (List AV) := (ms.take k).map f ++ (l.drop k).map f
theorem mix_len {α : Type} {f : α → List AV} {ms l : List α} {k : Nat} (hl : ms.length = l.length) (h : k ≤ l.length) : (mix f ms l k).length = l.length := by
  simp [mix]; omega
theorem mix_at {α : Type} {f : α → List AV} {ms l : List α} {k : Nat} (hl : ms.length = l.length) (h : k < l.length) : at? (mix f ms l k) k = some (f l[k]) := by
  rw [at?_eq, mix, List.getElem?_append_right (by simp; omega), List.getElem?_map, List.getElem?_drop]
  have : k + (k - (List.map f (List.take k ms)).length) = k := by simp; omega
  rw [this]; simp [h]
theorem mix_zero {α : Type} {f : α → List AV} {ms l : List α} : mix f ms l 0 = l.map f := by simp [mix]
theorem mix_end {α : Type} {f : α → List AV} {ms l : List α} (hl : ms.length = l.length) : mix f ms l l.length = ms.map f := by simp [mix, ← hl]
theorem mix_upd {α : Type} {f : α → List AV} {ms l : List α} {k : Nat} (hl : ms.length = l.length) (h : k < l.length) : upd (mix f ms l k) k (f (ms[k]'(by omega))) = mix f ms l (k + 1) := by
  rw [upd_eq]
  have e1 : mix f ms l k = (ms.take k).map f ++ f l[k] :: (l.drop (k + 1)).map f := by
    rw [mix, List.drop_eq_getElem_cons h, List.map_cons]
  have hk : k < ms.length := by omega
  have e2 : mix f ms l (k + 1) = (ms.take k).map f ++ f (ms[k]'hk) :: (l.drop (k + 1)).map f := by
    rw [mix, List.take_succ_eq_append_getElem hk, List.map_append, List.append_assoc]; rfl
  rw [e1, e2, List.set_append, if_neg (by simp; omega)]
  have : k - (List.map f (List.take k ms)).length = 0 := by simp; omega
  rw [this]; rfl
theorem at_upd {l : List (List AV)} {k : Nat} {c : List AV} (h : k < l.length) : at? (upd l k c) k = some c := by
  rw [at?_eq, upd_eq]; simp [h]
theorem upd_upd {l : List (List AV)} {k : Nat} {b c : List AV} : upd (upd l k b) k c = upd l k c := by
  simp [upd_eq]
def mInt (k0 : Int) (n : Nat) : List Int := (List.range n).map fun i : Nat => k0 + (i : Int)
def mStr (k0 : Int) (n : Nat) : List ByteArray := (List.range n).map fun i : Nat => mtext (k0 + (i : Int))
def mRow1 (k : Int) : Row := ⟨mtext k, k + 1, k + 2, (k + 3).tmod 3 == 0, k + 4, k + 5, k + 6, k + 7, k + 8, k + 9⟩
def mRow (k0 : Int) (n : Nat) : List Row := (List.range n).map fun i : Nat => mRow1 (k0 + 10 * (i : Int))
@[simp] theorem mInt_len (k0 : Int) (n : Nat) : (mInt k0 n).length = n := by simp [mInt]
theorem mInt_at (k0 : Int) (n k : Nat) (h : k < n) : (mInt k0 n)[k]'(by rw [mInt_len]; exact h) = k0 + k := by simp [mInt]
@[simp] theorem mStr_len (k0 : Int) (n : Nat) : (mStr k0 n).length = n := by simp [mStr]
theorem mStr_at (k0 : Int) (n k : Nat) (h : k < n) : (mStr k0 n)[k]'(by rw [mStr_len]; exact h) = mtext (k0 + k) := by simp [mStr]
@[simp] theorem mRow_len (k0 : Int) (n : Nat) : (mRow k0 n).length = n := by simp [mRow]
theorem mRow_at (k0 : Int) (n k : Nat) (h : k < n) : (mRow k0 n)[k]'(by rw [mRow_len]; exact h) = mRow1 (k0 + 10 * k) := by simp [mRow]
end Go.Proofs.YtpgamddjpclbaaaDoor.Ev
