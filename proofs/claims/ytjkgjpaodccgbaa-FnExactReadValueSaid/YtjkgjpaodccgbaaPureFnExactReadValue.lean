/- FnExactReadValue: for every string the two readings of a value agree (the pure law, over the printed functions), for all strings. -/
import Derived.Test.YtjkgjpaodccgbaaPFnExactReadValuex1
namespace Go.Proofs.Ytjkgjpaodccgbaa.Pure
open Go.RowKit Go.Proofs.Ytjkgjpaodccgbaa.PFnExactReadValue Go.Proofs.YtjkgjpaodccgbaaW.PrintWords Go.Proofs.YtjkgjpaodccgbaaW.PrintLast
set_option linter.unusedVariables false
set_option linter.unusedSimpArgs false
namespace Rdv
theorem w64 {n : Int} (h0 : -9223372036854775808 ≤ n) (h1 : n < 9223372036854775808) : wrap64 n = n := by unfold wrap64; omega
/-- Both loops, side by side, over a word of one to five bytes. -/
theorem both (s : ByteArray) (h1 : 1 ≤ s.size) (h5 : s.size ≤ 5) : ∀ (d i : Nat) (n : Int), s.size - i = d → i ≤ s.size →
    ∃ r, ∀ k, 2 * d + 2 ≤ k → spec_ReadValue.l0 k s n (i : Int) = some r ∧ impl_ReadValue.l0 k s n (s.size : Int) (i : Int) = some r
  | 0, i, n, hd, hi => by
    have : i = s.size := by omega
    subst this
    refine ⟨if n > 65535 then (0, false) else (n, true), fun k hk => ?_⟩
    obtain ⟨k, rfl⟩ : ∃ j, k = j + 2 := ⟨k - 2, by omega⟩
    refine ⟨?_, ?_⟩
    · unfold spec_ReadValue.l0
      rw [if_neg (by omega)]
      unfold spec_ReadValue.j1
      rw [if_neg (by simp)]
      unfold spec_l1In.f
      rw [if_pos (by omega)]
      simp only [Option.bind_some]
      rw [if_pos (by simp; omega)]
      split <;> rfl
    · unfold impl_ReadValue.l0
      rw [if_neg (by omega)]
      split <;> rfl
  | d + 1, i, n, hd, hi => by
    obtain ⟨hb0, hb1⟩ := bt_range s (i : Int)
    by_cases hbad : bt s (i : Int) < 48 ∨ bt s (i : Int) > 57
    · refine ⟨(0, false), fun k hk => ?_⟩
      obtain ⟨k, rfl⟩ : ∃ j, k = j + 2 := ⟨k - 2, by omega⟩
      refine ⟨?_, ?_⟩
      · unfold spec_ReadValue.l0
        rw [if_pos (by omega)]
        unfold spec_ReadValue.j1
        rw [if_pos (by simp; omega), if_pos (by omega), if_pos (by omega), w64 (n := bt s (i : Int)) (by omega) (by omega)]
        unfold spec_l1In.f
        rcases hbad with hb | hb
        · rw [if_neg (by omega)]; rfl
        · rw [if_pos (by omega)]
          simp only [Option.bind_some]
          rw [if_neg (by simp; omega)]
      · unfold impl_ReadValue.l0
        rw [if_pos (by omega), if_pos (by omega), if_pos (by omega)]
        rcases hbad with hb | hb
        · rw [if_pos hb]
        · rw [if_neg (by omega), if_pos hb]
    · obtain ⟨r, hr⟩ := both s h1 h5 d (i + 1) (wrap64 (wrap64 (n * 10) + ((bt s (i : Int) - 48) % 256))) (by omega) (by omega)
      refine ⟨r, fun k hk => ?_⟩
      obtain ⟨k, rfl⟩ : ∃ j, k = j + 2 := ⟨k - 2, by omega⟩
      have g1 := (hr k (by omega)).1
      have g2 := (hr (k + 1) (by omega)).2
      have e : (((i + 1 : Nat)) : Int) = (i : Int) + 1 := by omega
      rw [e] at g1 g2
      refine ⟨?_, ?_⟩
      · unfold spec_ReadValue.l0
        rw [if_pos (by omega)]
        unfold spec_ReadValue.j1
        rw [if_pos (by simp; omega), if_pos (by omega), if_pos (by omega), w64 (n := bt s (i : Int)) (by omega) (by omega)]
        unfold spec_l1In.f
        rw [if_pos (by omega)]
        simp only [Option.bind_some]
        rw [if_pos (by simp; omega), w64 (n := (i : Int) + 1) (by omega) (by omega)]
        exact g1
      · unfold impl_ReadValue.l0
        rw [if_pos (by omega), if_pos (by omega), if_pos (by omega), if_neg (by omega), if_neg (by omega), w64 (n := (i : Int) + 1) (by omega) (by omega), Int.mul_comm 10 n]
        exact g2
/-- A word of another length is no number. -/
theorem none' (s : ByteArray) (hs : s.size = 0 ∨ 5 < s.size) (hbig : s.size ≤ 1048576) : ∀ (d i : Nat) (n : Int), 5 - i = d → i ≤ 5 → ∀ k, 2 * d + 2 ≤ k → spec_ReadValue.l0 k s n (i : Int) = some (0, false)
  | d, i, n, hd, hi, k, hk => by
    obtain ⟨k, rfl⟩ : ∃ j, k = j + 2 := ⟨k - 2, by omega⟩
    have fin : ∀ m, (spec_l1In.f (s.size : Int) 1 5).bind (fun t102 => if t102 = true then (if n > 65535 then some ((0 : Int), false) else some (n, true)) else some (0, false)) = some (0, false) ∨ m = 1 := by
      intro m
      left
      unfold spec_l1In.f
      rcases hs with h | h
      · rw [if_neg (by omega)]; rfl
      · rw [if_pos (by omega)]
        simp only [Option.bind_some]
        rw [if_neg (by simp; omega)]
    have fin := (fin 0).resolve_right (by omega)
    by_cases hlt : (i : Int) < (s.size : Int)
    · unfold spec_ReadValue.l0
      rw [if_pos hlt]
      unfold spec_ReadValue.j1
      by_cases h5 : i < 5
      · obtain ⟨hb0, hb1⟩ := bt_range s (i : Int)
        rw [if_pos (by simp; omega), if_pos (by omega), if_pos hlt, w64 (n := bt s (i : Int)) (by omega) (by omega)]
        unfold spec_l1In.f
        by_cases hb : bt s (i : Int) ≥ 48
        · rw [if_pos hb]
          simp only [Option.bind_some]
          by_cases hb2 : bt s (i : Int) ≤ 57
          · rw [if_pos (by simp; omega), w64 (n := (i : Int) + 1) (by omega) (by omega)]
            have := none' s hs hbig (d - 1) (i + 1) (wrap64 (wrap64 (n * 10) + ((bt s (i : Int) - 48) % 256))) (by omega) (by omega) k (by omega)
            rw [show (((i + 1 : Nat)) : Int) = (i : Int) + 1 from by omega] at this
            exact this
          · rw [if_neg (by simp; omega)]
        · rw [if_neg hb]; rfl
      · rw [if_neg (by simp; omega)]
        exact fin
    · unfold spec_ReadValue.l0
      rw [if_neg hlt]
      unfold spec_ReadValue.j1
      rw [if_neg (by simp)]
      exact fin
  termination_by d => d
  decreasing_by omega
end Rdv
open Rdv in
theorem FnExactReadValue : laws_FnExactReadValue.Pure := by
  intro s hs
  by_cases hbig : (s.size : Int) > 1048576
  · exact ⟨0, by unfold laws_FnExactReadValue.f; rw [if_pos hbig]⟩
  by_cases hin : 1 ≤ s.size ∧ s.size ≤ 5
  · obtain ⟨r, hr⟩ := both s hin.1 hin.2 s.size 0 0 rfl (by omega)
    obtain ⟨g1, g2⟩ := hr (2 * s.size + 2) (by omega)
    refine ⟨2 * s.size + 2, ?_⟩
    unfold laws_FnExactReadValue.f
    rw [if_neg hbig]
    have e1 : spec_ReadValue.f (2 * s.size + 2) s = some r := g1
    have e2 : impl_ReadValue.f (2 * s.size + 2) s = some r := by
      unfold impl_ReadValue.f impl_within.f
      rw [if_pos (by omega)]
      simp only [Option.bind_some]
      rw [if_pos (by simp; omega)]
      exact g2
    rw [e1, e2]
    simp
  · have e1 := none' s (by omega) (by omega) 5 0 0 rfl (by omega) 12 (by omega)
    refine ⟨12, ?_⟩
    unfold laws_FnExactReadValue.f
    rw [if_neg hbig]
    have e1 : spec_ReadValue.f 12 s = some (0, false) := e1
    have e2 : impl_ReadValue.f 12 s = some (0, false) := by
      unfold impl_ReadValue.f impl_within.f
      by_cases h : (1 : Int) ≤ (s.size : Int)
      · rw [if_pos h]
        simp only [Option.bind_some]
        rw [if_neg (by simp; omega)]
      · rw [if_neg h]; rfl
    rw [e1, e2]
    simp
end Go.Proofs.Ytjkgjpaodccgbaa.Pure
