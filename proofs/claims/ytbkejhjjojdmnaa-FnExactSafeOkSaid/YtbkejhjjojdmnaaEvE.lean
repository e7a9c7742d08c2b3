/- The evaluator, fifth part: functions that are rules of the model, contracts that lie in the library, and nil slices as empty objects. -/
import Derived.Test.YtbkejhjjojdmnaaEvD
set_option linter.constructorNameAsVariable false
set_option linter.unusedVariables false
set_option linter.unusedSimpArgs false
namespace Go.Proofs.Ytbkejhjjojdmnaa.Ev
open Go
set_option linter.unusedVariables false
set_option linter.unusedSimpArgs false
variable {C : Cfg} {P : Program}

/-! # The place of a byte, a rule of the model -/
/-- The place of the first byte 'c' of a list, counted from 'k' on; -1 where there is none. -/
def idxB (c : Int) : List UInt8 → Int → Int
  | [], _ => -1
  | x :: l, k => if (x.toNat : Int) = c then k else idxB c l (k + 1)
theorem idxB_cons (c : Int) (x : UInt8) (l : List UInt8) (k : Int) : idxB c (x :: l) k = if (x.toNat : Int) = c then k else idxB c l (k + 1) := rfl
theorem idxB_rng (c : Int) : ∀ (l : List UInt8) (k : Int), idxB c l k = -1 ∨ k ≤ idxB c l k ∧ idxB c l k < k + l.length
  | [], k => .inl rfl
  | x :: l, k => by
    rw [idxB_cons]
    split
    · right; simp only [List.length_cons]; omega
    · rcases idxB_rng c l (k + 1) with h | h
      · exact .inl h
      · right; simp only [List.length_cons]; omega
theorem idxB_add (c : Int) : ∀ (l : List UInt8) (k : Int), idxB c l k = if idxB c l 0 = -1 then -1 else idxB c l 0 + k
  | [], k => rfl
  | x :: l, k => by
    rw [idxB_cons, idxB_cons]
    by_cases h : (x.toNat : Int) = c
    · rw [if_pos h, if_pos h, if_neg (by omega)]; omega
    · rw [if_neg h, if_neg h, idxB_add c l (k + 1), idxB_add c l (0 + 1)]
      have := idxB_rng c l 0
      by_cases h2 : idxB c l 0 = -1
      · rw [if_pos h2, if_pos h2]; rfl
      · rw [if_neg h2, if_neg h2, if_neg (by omega)]; omega
theorem idx_range (s : ByteArray) (c : UInt8) : ∀ (n k : Nat), k + n = s.size →
    (match (List.range' k n).find? (fun i => s[i]! == c) with | some i => (i : Int) | none => -1) = idxB c.toNat ((bs s).drop k) k
  | 0, k, h => by
    rw [show k = s.size by omega, drop_size]; rfl
  | n + 1, k, h => by
    have hk : k < s.size := by omega
    rw [drop_bs hk, idxB_cons, List.range'_succ, List.find?_cons]
    have e : s[k]! = (bs s)[k]'(by rw [bs_len]; exact hk) := by
      rw [getElem!_pos s k hk]; rfl
    rw [e]
    have e2 : ((((bs s)[k]'(by rw [bs_len]; exact hk)).toNat : Int) = (c.toNat : Int)) ↔ ((bs s)[k]'(by rw [bs_len]; exact hk) == c) = true := by
      rw [beq_iff_eq, ← UInt8.toNat_inj]; omega
    have ih := idx_range s c n (k + 1) (by omega)
    by_cases h3 : ((bs s)[k]'(by rw [bs_len]; exact hk) == c) = true
    · rw [h3, if_pos (e2.2 h3)]
    · rw [if_neg (fun q => h3 (e2.1 q))]
      have h4 : ((bs s)[k]'(by rw [bs_len]; exact hk) == c) = false := by simpa using h3
      rw [h4, ← show ((k + 1 : Nat) : Int) = (k : Int) + 1 from rfl]
      exact ih
theorem rows_idx : Extern.allRows.lookup "internal/bytealg.IndexByteString" = some Extern.BytealgIndexByte.indexByte := by kernel_rfl
theorem find_idx {F : Func} (hn : F.name = "internal/bytealg.IndexByteString") : Extern.find F = some Extern.BytealgIndexByte.indexByte := by
  have h1 : (Extern.allGenericRows.lookup "internal/bytealg.IndexByteString").isNone = true := by decide +kernel
  have h2 : (Extern.allTypedRows.lookup "internal/bytealg.IndexByteString").isNone = true := by decide +kernel
  rw [Option.isNone_iff_eq_none] at h1 h2
  simp only [Extern.find, hn, h1, h2, rows_idx]
  rfl
theorem idx_run (s : ByteArray) (c : Int) : Extern.BytealgIndexByte.indexByte #[.string s, .int .u8 c] =
    (match (List.range s.size).find? fun i => s[i]! == c.toNat.toUInt8 with | some i => pure (goInt i) | none => pure (goInt (-1))) := by
  rfl
theorem ro_idx {f : Nat} (hx : (match P.funcs[f]? with | some F => decide (F.name = "internal/bytealg.IndexByteString") && (Extern.findNext F).isNone && F.body.isNone | none => false) = true)
    (s : ByteArray) (c : Int) (hc : 0 ≤ c) (hc' : c < 256) : RO C P f [.s s, .i .u8 c] (.i .i64 (idxB c (bs s) 0)) := by
  intro J w vals hG hI hv
  split at hx
  · rename_i F hF
    simp only [Bool.and_eq_true, decide_eq_true_eq, Option.isNone_iff_eq_none] at hx
    obtain ⟨⟨h1, h2⟩, h3⟩ := hx
    have h4 := find_idx h1
    match vals, hv with
    | [v1, v2], hv =>
      obtain ⟨hv1, hv2, _⟩ := hv
      simp only [VR] at hv1 hv2
      subst hv1; subst hv2
      right
      refine ⟨.int .i64 (idxB c (bs s) 0), w, ?_, .i .i64 (idxB c (bs s) 0), [], J, by simp [Back], Ext.refl J w, hI, rfl⟩
      have hr := idx_range s c.toNat.toUInt8 s.size 0 (by omega)
      rw [List.drop_zero] at hr
      have e : ((c.toNat.toUInt8.toNat : Nat) : Int) = c := by
        simp; omega
      rw [e] at hr
      rw [← List.range_eq_range'] at hr
      have hn' : ¬ F.name = "runtime.NumGoroutine" := by rw [h1]; decide
      simp [callFunc, hF, hn', h3, h2, h4, idx_run]
      have hr' : idxB c (bs s) 0 = (match List.find? (fun i => s[i]! == UInt8.ofNat c.toNat) (List.range s.size) with | some i => (i : Int) | none => -1) := hr.symm
      rw [hr']
      cases List.find? (fun i => s[i]! == UInt8.ofNat c.toNat) (List.range s.size) <;> rfl
  · cases hx
/-! # The count of a byte, a rule of the model -/
def cntB (c : Int) : List UInt8 → Nat
  | [] => 0
  | x :: l => (if (x.toNat : Int) = c then 1 else 0) + cntB c l
theorem cnt_loop (s : ByteArray) (c : UInt8) : ∀ (i j : Nat) (n : Int), i + j = s.size → 
    ByteArray.foldlM.loop (m := _root_.Id) (fun (n : Int) x => pure (if (x == c) = true then n + 1 else n)) s s.size (Nat.le_refl _) i j n = (pure (n + (cntB c.toNat ((bs s).drop j) : Nat)) : _root_.Id Int)
  | 0, j, n, h => by
    rw [ByteArray.foldlM.loop, dif_neg (by omega), show j = s.size by omega, drop_size]
    simp [cntB]
  | i + 1, j, n, h => by
    have hj : j < s.size := by omega
    rw [ByteArray.foldlM.loop, dif_pos hj]
    simp only [pure_bind]
    rw [cnt_loop s c i (j + 1) _ (by omega), drop_bs hj, cntB]
    have e : s[j] = (bs s)[j]'(by rw [bs_len]; exact hj) := rfl
    rw [e]
    by_cases h3 : (bs s)[j]'(by rw [bs_len]; exact hj) = c
    · rw [if_pos (by simp [h3]), if_pos (by rw [h3])]
      congr 1; omega
    · rw [if_neg (by simpa using h3), if_neg (fun q => h3 (by rw [← UInt8.toNat_inj]; omega))]
      congr 1; omega
theorem cnt_fold (s : ByteArray) (c : UInt8) : s.foldl (fun (n : Int) x => if (x == c) = true then n + 1 else n) 0 = (cntB c.toNat (bs s) : Nat) := by
  have := cnt_loop s c s.size 0 0 (by omega)
  rw [List.drop_zero, Int.zero_add] at this
  unfold ByteArray.foldl ByteArray.foldlM
  simp only [Nat.sub_zero, Nat.le_refl, dite_true]
  exact this
theorem rows_count : Extern.allRows.lookup "internal/bytealg.CountString" = some Extern.BytealgCount.count := by kernel_rfl
theorem find_count {F : Func} (hn : F.name = "internal/bytealg.CountString") : Extern.find F = some Extern.BytealgCount.count := by
  have h1 : (Extern.allGenericRows.lookup "internal/bytealg.CountString").isNone = true := by decide +kernel
  have h2 : (Extern.allTypedRows.lookup "internal/bytealg.CountString").isNone = true := by decide +kernel
  rw [Option.isNone_iff_eq_none] at h1 h2
  simp only [Extern.find, hn, h1, h2, rows_count]
  rfl
theorem count_run (s : ByteArray) (c : Int) : Extern.BytealgCount.count #[.string s, .int .u8 c] =
    pure (goInt (s.foldl (fun (n : Int) x => if (x == c.toNat.toUInt8) = true then n + 1 else n) 0)) := by
  rfl
theorem ro_count {f : Nat} (hx : (match P.funcs[f]? with | some F => decide (F.name = "internal/bytealg.CountString") && (Extern.findNext F).isNone && F.body.isNone | none => false) = true)
    (s : ByteArray) (c : Int) (hc : 0 ≤ c) (hc' : c < 256) : RO C P f [.s s, .i .u8 c] (.i .i64 (cntB c (bs s))) := by
  intro J w vals hG hI hv
  split at hx
  · rename_i F hF
    simp only [Bool.and_eq_true, decide_eq_true_eq, Option.isNone_iff_eq_none] at hx
    obtain ⟨⟨h1, h2⟩, h3⟩ := hx
    have h4 := find_count h1
    match vals, hv with
    | [v1, v2], hv =>
      obtain ⟨hv1, hv2, _⟩ := hv
      simp only [VR] at hv1 hv2
      subst hv1; subst hv2
      right
      refine ⟨.int .i64 (cntB c (bs s)), w, ?_, .i .i64 (cntB c (bs s)), [], J, by simp [Back], Ext.refl J w, hI, rfl⟩
      have hr := cnt_fold s c.toNat.toUInt8
      have e : ((c.toNat.toUInt8.toNat : Nat) : Int) = c := by
        simp; omega
      rw [e] at hr
      have hn' : ¬ F.name = "runtime.NumGoroutine" := by rw [h1]; decide
      have hq : Extern.BytealgCount.count #[.string s, .int .u8 c] = pure (goInt (cntB c (bs s) : Nat)) := by rw [count_run, hr]
      simp [callFunc, hF, hn', h3, h2, h4, hq]
      rfl
  · cases hx
end Go.Proofs.Ytbkejhjjojdmnaa.Ev
