/- Contracts: what the functions of this part return, for arguments as each contract says. -/
import Derived.Test.YtpgamddjpclbaaaDoorEvD
import Derived.Test.YtpgamddjpclbaaaDoorEvTab
import Derived.Test.YtpgamddjpclbaaaDoorSTy
import Derived.Test.YtpgamddjpclbaaaDoorEvE
set_option linter.constructorNameAsVariable false
set_option linter.unusedVariables false
set_option linter.unusedSimpArgs false
set_option linter.unusedVariables false
set_option maxHeartbeats 4000000
set_option maxRecDepth 20000
set_option linter.unusedSimpArgs false
set_option linter.constructorNameAsVariable false
namespace Go.Proofs.YtpgamddjpclbaaaDoor.Ev
open Go Go.Proofs
attribute [local irreducible] RO Fn IntKind.wrap TriL
/- parts of a string at a byte -/
def splitB (c : Int) : List UInt8 → List (List UInt8)
  | [] => [[]]
  | x :: l => if (x.toNat : Int) = c then [] :: splitB c l else match splitB c l with
    | p :: ps => (x :: p) :: ps
    | [] => [[x]]
def ofBs (l : List UInt8) : ByteArray := ⟨l.toArray⟩
@[simp] theorem bs_ofBs (l : List UInt8) : bs (ofBs l) = l := bs_mk l
theorem ofBs_bs (s : ByteArray) : ofBs (bs s) = s := by rw [← bs_inj, bs_ofBs]
theorem splitB_len (c : Int) : ∀ l, (splitB c l).length = cntB c l + 1
  | [] => rfl
  | x :: l => by
    have ih := splitB_len c l
    simp only [splitB, cntB]
    by_cases h : (x.toNat : Int) = c
    · rw [if_pos h, if_pos h, List.length_cons, ih]; omega
    · rw [if_neg h, if_neg h]
      cases hs : splitB c l with
      | nil => rw [hs] at ih; simp at ih
      | cons p ps => rw [hs] at ih; simp only [List.length_cons] at ih ⊢; omega
theorem splitB_none {c : Int} : ∀ {l : List UInt8}, cntB c l = 0 → splitB c l = [l]
  | [], _ => rfl
  | x :: l, h => by
    simp only [cntB] at h
    by_cases hx : (x.toNat : Int) = c
    · rw [if_pos hx] at h; omega
    · rw [if_neg hx] at h
      rw [splitB, if_neg hx, splitB_none (by omega)]
theorem idx_cnt (c : Int) : ∀ (l : List UInt8) (k : Int), 0 ≤ k → (idxB c l k = -1 ↔ cntB c l = 0)
  | [], k, _ => by simp [idxB, cntB]
  | x :: l, k, hk => by
    rw [idxB_cons]
    simp only [cntB]
    by_cases hx : (x.toNat : Int) = c
    · rw [if_pos hx, if_pos hx]; constructor <;> intro h <;> omega
    · rw [if_neg hx, if_neg hx, idx_cnt c l (k + 1) (by omega)]; omega
/-- The first part, and the rest. -/
theorem splitB_step {c : Int} : ∀ (l : List UInt8) (k : Int) (n : Nat), 0 ≤ k → idxB c l k = k + n → n < l.length ∧ splitB c l = l.take n :: splitB c (l.drop (n + 1)) ∧ cntB c l = cntB c (l.drop (n + 1)) + 1
  | [], k, n, hk, h => by simp [idxB] at h; omega
  | x :: l, k, n, hk, h => by
    rw [idxB_cons] at h
    by_cases hx : (x.toNat : Int) = c
    · rw [if_pos hx] at h
      have : n = 0 := by omega
      subst this
      simp only [splitB, cntB, if_pos hx]
      simp; omega
    · rw [if_neg hx] at h
      have hr := idxB_rng c l (k + 1)
      obtain ⟨m, hm⟩ : ∃ m, n = m + 1 := ⟨n - 1, by omega⟩
      have h' : idxB c l (k + 1) = k + 1 + (m : Int) := by rw [h, hm]; simp only [Int.natCast_add, Int.natCast_one]; omega
      subst hm
      obtain ⟨h1, h2, h3⟩ := splitB_step l (k + 1) m (by omega) h'
      refine ⟨by simpa using h1, ?_, ?_⟩
      · simp only [splitB, if_neg hx]
        rw [h2]
        simp
      · simp only [cntB, if_neg hx]
        simpa using h3
def splitS (c : Int) (s : ByteArray) : List ByteArray := (splitB c (bs s)).map ofBs
theorem flt_take {α : Type} {l : List α} {p : α → Bool} {k : Nat} (h : k < l.length) : (l.take (k + 1)).filter p = (l.take k).filter p ++ (if p l[k] then [l[k]] else []) := by
  rw [List.take_succ_eq_append_getElem h, List.filter_append]
  congr 1
  simp [List.filter_cons]
theorem flt_len {α : Type} {l : List α} {p : α → Bool} {k : Nat} : ((l.take k).filter p).length ≤ k := by
  have := List.length_filter_le p (l.take k)
  simp at this; omega

end Go.Proofs.YtpgamddjpclbaaaDoor.Ev
