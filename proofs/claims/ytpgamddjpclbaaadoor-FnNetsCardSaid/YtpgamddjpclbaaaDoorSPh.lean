/- Contracts: what the functions of this part return, for arguments as each contract says. -/
import Derived.Test.YtpgamddjpclbaaaDoorEvD
import Derived.Test.YtpgamddjpclbaaaDoorEvTab
import Derived.Test.YtpgamddjpclbaaaDoorSTy
import Derived.Test.YtpgamddjpclbaaaDoorSCq
import Derived.Test.YtpgamddjpclbaaaDoorSKb
import Derived.Test.YtpgamddjpclbaaaDoorSLb
import Derived.Test.YtpgamddjpclbaaaDoorSSp
import Derived.Test.YtpgamddjpclbaaaDoorSSq
import Derived.Test.YtpgamddjpclbaaaDoorSLn
import Derived.Test.YtpgamddjpclbaaaDoorSPl
import Derived.Test.YtpgamddjpclbaaaDoorSPg
set_option linter.constructorNameAsVariable false
set_option linter.unusedVariables false
set_option linter.unusedSimpArgs false
set_option linter.unusedVariables false
set_option maxHeartbeats 4000000
set_option maxRecDepth 20000
set_option linter.unusedSimpArgs false
set_option linter.constructorNameAsVariable false
namespace Go.Proofs.YtpgamddjpclbaaaDoor.Ev
open Go Go.Proofs
attribute [local irreducible] RO Fn IntKind.wrap TriL
def gcnt (l : List ByteArray) (j : Int) : Nat := (l.filter fun x => decide ((parseL x).2 = j)).length
def grecs (l : List ByteArray) : List Rec := (l.filter fun x => decide ((parseL x).2 = 0)).map fun x => (parseL x).1
def gcnts (l : List ByteArray) : List Int := [(gcnt l 0 : Int), (gcnt l 1 : Int), (gcnt l 2 : Int), (gcnt l 3 : Int), (gcnt l 4 : Int), (gcnt l 5 : Int)]
theorem gcnt_app (a b : List ByteArray) (j : Int) : gcnt (a ++ b) j = gcnt a j + gcnt b j := by
  rw [gcnt, List.filter_append, List.length_append]; rfl
theorem grecs_app (a b : List ByteArray) : grecs (a ++ b) = grecs a ++ grecs b := by
  rw [grecs, List.filter_append, List.map_append]; rfl
theorem gcnt_one (x : ByteArray) (j : Int) : gcnt [x] j = if (parseL x).2 = j then 1 else 0 := by
  rw [gcnt, List.filter_cons, List.filter_nil]
  by_cases h : (parseL x).2 = j <;> simp [h]
theorem gcnt_zero (l : List ByteArray) : gcnt l 0 = (grecs l).length := by
  rw [grecs, List.length_map]; rfl
theorem gramF_eq (l : List ByteArray) : gramF l = (grecs l, gcnts l) := by
  suffices h : ∀ k, k ≤ l.length → gramF (l.take k) = (grecs (l.take k), gcnts (l.take k)) by
    have := h l.length (Nat.le_refl _); rwa [List.take_length] at this
  intro k
  induction k with
  | zero => intro _; rfl
  | succ k ih =>
    intro hk
    rw [gramF_take (by omega), ih (by omega), gstep, List.take_succ_eq_append_getElem (by omega)]
    have hc := parseL_rng l[k]
    refine Prod.ext ?_ ?_
    · show grecs _ ++ _ = _
      rw [grecs_app]
      congr 1
      rw [grecs, List.filter_cons, List.filter_nil]
      by_cases h : (parseL l[k]).2 = 0 <;> simp [h]
    · show (gcnts _).set _ _ = _
      generalize he : (parseL l[k]).2 = c at hc
      have : c = 0 ∨ c = 1 ∨ c = 2 ∨ c = 3 ∨ c = 4 := by omega
      simp only [gcnts, gcnt_app, gcnt_one, he]
      rcases this with rfl | rfl | rfl | rfl | rfl <;> simp [List.set, List.getD]
theorem gcnt_five (l : List ByteArray) : gcnt l 5 = 0 := by
  rw [gcnt, List.length_eq_zero_iff, List.filter_eq_nil_iff]
  intro x _
  have := parseL_rng x
  simp only [decide_eq_true_eq]; omega
theorem gcnt_sum : ∀ l : List ByteArray, gcnt l 0 + gcnt l 1 + gcnt l 2 + gcnt l 3 + gcnt l 4 = l.length
  | [] => rfl
  | x :: l => by
    have ih := gcnt_sum l
    have hc := parseL_rng x
    have e : ∀ j, gcnt (x :: l) j = (if (parseL x).2 = j then 1 else 0) + gcnt l j := by
      intro j; rw [show x :: l = [x] ++ l from rfl, gcnt_app, gcnt_one]
    rw [e, e, e, e, e, List.length_cons]
    generalize (parseL x).2 = c at hc
    have : c = 0 ∨ c = 1 ∨ c = 2 ∨ c = 3 ∨ c = 4 := by omega
    rcases this with rfl | rfl | rfl | rfl | rfl <;> simp <;> omega
theorem splitB_app {c : Int} {x : UInt8} (hx : (x.toNat : Int) = c) (r : List UInt8) : ∀ l : List UInt8, splitB c (l ++ x :: r) = splitB c l ++ splitB c r
  | [] => by
    rw [List.nil_append, show splitB c (x :: r) = [] :: splitB c r by rw [splitB, if_pos hx]]; rfl
  | y :: l => by
    have ih := splitB_app hx r l
    rw [List.cons_append, splitB, splitB]
    by_cases hy : (y.toNat : Int) = c
    · rw [if_pos hy, if_pos hy, ih]; rfl
    · rw [if_neg hy, if_neg hy, ih]
      cases hs : splitB c l with
      | nil => have := splitB_len c l; rw [hs] at this; simp at this
      | cons p ps => rfl
theorem linesL_app {x : UInt8} (hx : (x.toNat : Int) = 10) (l r : List UInt8) : linesL (l ++ x :: r) = linesL l ++ linesL r := by
  simp only [linesL]
  rw [splitB_app hx, List.map_append, List.filter_append]
theorem linesS_app (a b : ByteArray) : linesS (a ++ ⟨#[10]⟩ ++ b) = linesS a ++ linesS b := by
  rw [linesS, bs_append, bs_append, List.append_assoc]
  exact linesL_app (x := 10) rfl _ _
theorem linesS_add (a b c : ByteArray) (h : bs c = 10 :: bs b) : linesS (a ++ c) = linesS a ++ linesS b := by
  rw [linesS, bs_append, h]
  exact linesL_app (x := 10) rfl _ _
theorem linesS_one {s : ByteArray} (h : cntB 10 (bs s) = 0) : linesS s = if s = ⟨#[]⟩ then [] else [s] := by
  rw [linesS, linesL_one h, ofBs_bs]
  by_cases hs : s = ⟨#[]⟩
  · rw [if_pos hs, if_pos (by rw [hs]; rfl)]
  · rw [if_neg hs, if_neg]
    intro e; exact hs (bs_inj.1 (by rw [e]; rfl))
theorem parseG_eq (s : ByteArray) (h : s.size ≤ 120) : parseG s = (grecs (linesS s), gcnts (linesS s)) := by
  rw [parseG, if_neg (by omega), gramF_eq]

end Go.Proofs.YtpgamddjpclbaaaDoor.Ev
